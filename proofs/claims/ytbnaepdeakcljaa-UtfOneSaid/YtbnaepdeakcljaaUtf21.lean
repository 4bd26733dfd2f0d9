/-
One byte that is another one changes at most the codes whose bytes are within three of it: the law answers true, whatever it is handed. Conditions: none.
-/
import Derived.Test.YtbnaepdeakcljaaUtf20
import Derived.Test.YtbnaepdeakcljaaUtf7
set_option linter.unusedSimpArgs false
set_option linter.unusedVariables false
set_option linter.unusedSectionVars false
namespace Go.Proofs.Ytbnaepdeakcljaa
open Go Go.Ab Go.ChangeShapes Go.WideShapes Go.ChangeAt Go.RowKit
def a5 : ACode :=
  (.seq (.reg [⟨(.some 6), (.mv (.k (.bool false))), .none⟩]) (.seq (.seq (.reg [⟨(.some 14), (.mv (.t 0)), .none⟩, ⟨(.some 15), (.len (.t 14)), .none⟩, ⟨(.some 16), (.bin .eql (.t 15) (.k (.int .i64
  0))), .none⟩, ⟨(.some 17), (.mv (.t 16)), .none⟩, ⟨(.some 18), (.mv (.t 0)), (.some (17, false))⟩, ⟨(.some 19), (.len (.t 18)), (.some (17, false))⟩, ⟨(.some 20), (.bin .gtr (.t 19) (.k (.int .i64
  300))), (.some (17, false))⟩, ⟨(.some 21), (.pick (.t 17) (.k (.bool true)) (.t 20)), .none⟩]) (.cond (.t 21) (.seq (.reg [⟨(.some 22), (.call (.f 19) []), .none⟩, ⟨(.some 6), (.mv (.t 22)), .none⟩])
  .ret) .skip)) (.seq (.reg [⟨(.some 23), (.mv (.t 1)), .none⟩, ⟨(.some 24), (.cvI .i64 (.t 23)), .none⟩, ⟨(.some 25), (.mv (.t 0)), .none⟩, ⟨(.some 26), (.len (.t 25)), .none⟩, ⟨(.some 27), (.bin .rem
  (.t 24) (.t 26)), .none⟩, ⟨(.some 7), (.mv (.t 27)), .none⟩]) (.seq (.reg [⟨(.some 28), (.bs 5 1 []), .none⟩, ⟨(.some 29), (.mv (.t 0)), .none⟩, ⟨(.some 30), (.app 5 1 (.t 28) (.t 29)), .none⟩,
  ⟨(.some 8), (.mv (.t 30)), .none⟩]) (.seq (.reg [⟨(.some 31), (.mv (.t 8)), .none⟩, ⟨(.some 32), (.mv (.t 7)), .none⟩, ⟨(.some 33), (.mv (.t 2)), .none⟩, ⟨(.some 34), (.ia 5 (.t 31) (.t 32)), .none⟩,
  ⟨.none, (.st 1 (.t 34) (.t 33)), .none⟩]) (.seq (.reg [⟨(.some 35), (.xe .mkm []), .none⟩, ⟨(.some 9), (.mv (.t 35)), .none⟩]) (.seq (.seq (.reg [⟨(.some 36), (.mv (.t 0)), .none⟩, ⟨(.some 37), (.call
  (.f 14) [(.t 36)]), .none⟩, ⟨(.some 38), (.len (.t 37)), .none⟩, ⟨(.some 39), (.mv (.k (.int .i64 0))), .none⟩]) (.block 0 (.loop (.seq (.reg [⟨(.some 40), (.bin .lss (.t 39) (.t 38)), .none⟩]) (.seq
  (.cond (.t 40) .skip (.exit 0)) (.seq (.block 1 (.seq (.reg [⟨(.some 41), (.ia 27 (.t 37) (.t 39)), .none⟩, ⟨(.some 42), (.ld (.some 3) (.t 41)), .none⟩, ⟨(.some 11), (.alc 27 [(.int .i32 0), (.int
  .i64 0), (.int .i64 0)]), .none⟩, ⟨.none, (.st 3 (.t 11) (.t 42)), .none⟩]) (.dtr (.one ⟨(.some 43), (.mv (.t 9)), .none⟩ (.one ⟨(.some 44), (.ld (.some 3) (.t 11)), .none⟩ (.both (.one ⟨(.some 45),
  (.xv (.lkpS [.int, .int, .int] false (.int .i64 0)) [(.t 43), (.t 44)]), .none⟩ (.one ⟨(.some 46), (.bin .add (.t 45) (.k (.int .i64 1))), .none⟩ (.one ⟨(.some 47), (.xe (.mentS [.int, .int, .int]
  (.int .i64 0)) [(.t 43), (.t 44)]), .none⟩ (.one ⟨(.some 48), (.ext (.t 47) 1), .none⟩ (.one ⟨.none, (.xe .ests [(.t 43), (.t 48), (.t 46)]), .none⟩ .leaf))))) (.both (.one ⟨(.some 47), (.xe (.mentS
  [.int, .int, .int] (.int .i64 0)) [(.t 43), (.t 44)]), .none⟩ (.one ⟨(.some 45), (.xv (.lkpS [.int, .int, .int] false (.int .i64 0)) [(.t 43), (.t 44)]), .none⟩ (.one ⟨(.some 46), (.bin .add (.t 45)
  (.k (.int .i64 1))), .none⟩ (.one ⟨(.some 48), (.ext (.t 47) 1), .none⟩ (.one ⟨.none, (.xe .ests [(.t 43), (.t 48), (.t 46)]), .none⟩ .leaf))))) .top))))))) (.reg [⟨(.some 49), (.bin .add (.t 39) (.k
  (.int .i64 1))), .none⟩, ⟨(.some 39), (.mv (.t 49)), .none⟩]))))))) (.seq (.seq (.reg [⟨(.some 50), (.mv (.t 8)), .none⟩, ⟨(.some 51), (.call (.f 14) [(.t 50)]), .none⟩, ⟨(.some 52), (.len (.t 51)),
  .none⟩, ⟨(.some 53), (.mv (.k (.int .i64 0))), .none⟩]) (.block 2 (.loop (.seq (.reg [⟨(.some 54), (.bin .lss (.t 53) (.t 52)), .none⟩]) (.seq (.cond (.t 54) .skip (.exit 2)) (.seq (.block 3 (.seq
  (.reg [⟨(.some 55), (.ia 27 (.t 51) (.t 53)), .none⟩, ⟨(.some 56), (.ld (.some 3) (.t 55)), .none⟩, ⟨(.some 13), (.alc 27 [(.int .i32 0), (.int .i64 0), (.int .i64 0)]), .none⟩, ⟨.none, (.st 3 (.t 13)
  (.t 56)), .none⟩]) (.seq (.reg [⟨(.some 57), (.fa 2 (.t 13)), .none⟩, ⟨(.some 58), (.ld .none (.t 57)), .none⟩, ⟨(.some 59), (.mv (.t 7)), .none⟩, ⟨(.some 60), (.bin .sub (.t 59) (.k (.int .i64 3))),
  .none⟩, ⟨(.some 61), (.bin .leq (.t 58) (.t 60)), .none⟩, ⟨(.some 62), (.mv (.t 61)), .none⟩, ⟨(.some 63), (.fa 1 (.t 13)), (.some (62, false))⟩, ⟨(.some 64), (.ld .none (.t 63)), (.some (62,
  false))⟩, ⟨(.some 65), (.mv (.t 7)), (.some (62, false))⟩, ⟨(.some 66), (.bin .add (.t 65) (.k (.int .i64 3))), (.some (62, false))⟩, ⟨(.some 67), (.bin .gtr (.t 64) (.t 66)), (.some (62, false))⟩,
  ⟨(.some 68), (.pick (.t 62) (.k (.bool true)) (.t 67)), .none⟩, ⟨(.some 69), (.mv (.t 68)), .none⟩, ⟨(.some 70), (.mv (.t 9)), (.some (69, true))⟩, ⟨(.some 71), (.ld (.some 3) (.t 13)), (.some (69,
  true))⟩, ⟨(.some 72), (.xv (.lkpS [.int, .int, .int] false (.int .i64 0)) [(.t 70), (.t 71)]), (.some (69, true))⟩, ⟨(.some 73), (.bin .neq (.t 72) (.k (.int .i64 1))), (.some (69, true))⟩, ⟨(.some
  74), (.pick (.t 69) (.t 73) (.k (.bool false))), .none⟩]) (.cond (.t 74) (.seq (.reg [⟨(.some 6), (.mv (.k (.bool false))), .none⟩]) .ret) .skip)))) (.reg [⟨(.some 75), (.bin .add (.t 53) (.k (.int
  .i64 1))), .none⟩, ⟨(.some 53), (.mv (.t 75)), .none⟩]))))))) (.seq (.reg [⟨(.some 76), (.mv (.t 8)), .none⟩, ⟨(.some 77), (.call (.f 14) [(.t 76)]), .none⟩, ⟨(.some 78), (.len (.t 77)), .none⟩,
  ⟨(.some 79), (.bin .gtr (.t 78) (.k (.int .i64 0))), .none⟩, ⟨(.some 80), (.mv (.t 79)), .none⟩, ⟨(.some 81), (.call (.f 19) []), (.some (80, true))⟩, ⟨(.some 82), (.pick (.t 80) (.t 81) (.k (.bool
  false))), .none⟩, ⟨(.some 6), (.mv (.t 82)), .none⟩]) .ret)))))))))
theorem c5 : Try.f5.body.bind (cCode Try.prog 83) = some a5 := by kernel_rfl
theorem r5 : Try.f5.results.toList = [(.tmp 6)] := by kernel_rfl
theorem n5 : Try.f5.ntmps = 83 := by kernel_rfl
theorem e5 : Enters Try.prog 5 := enters_of Try.func5 (by kernel_rfl) (by kernel_rfl)

def litsB (b : List Nat) : List AV := b.map fun (n : Nat) => .lit (.int .u8 (n : Int))
theorem octs_flat (b : List Nat) : (octs b).flatten.map AV.lit = litsB b := by
  induction b with
  | nil => rfl
  | cons x b ih =>
    have : octs (x :: b) = [.int .u8 (x : Int)] :: octs b := rfl
    rw [this, List.flatten_cons, List.map_append, ih]
    rfl
theorem octs_flen (b : List Nat) : (octs b).flatten.length = b.length := by
  rw [← List.length_map (f := AV.lit), octs_flat]; simp [litsB]
theorem app_row (b : List Nat) (h : b.length ≠ 0) : rowApp [] [(0, 5)] 5 (.vx .wrap [.sl 5 [] (some 0)]) (.sl 5 (octs b) none) = some ⟨1, 0, b.length, litsB b, [], [], 1⟩ := by
  have h1 : srcN [] 5 (.sl 5 (octs b) none) = some (b.length, (octs b).flatten) := by simp [srcN, octs_length]
  simp only [rowApp, h1, octs_flen, octs_flat]
  rw [if_pos ⟨by omega, by omega, trivial, rfl⟩, Nat.div_self (by omega)]
  rfl
theorem litsB_len (b : List Nat) : (litsB b).length = b.length := by simp [litsB]
theorem litsB_unOb (b : List Nat) : unOb (litsB b) = some (litsB b) := by
  cases b with
  | nil => rfl
  | cons x b => cases b <;> rfl
theorem litsB_set (b : List Nat) (k c : Nat) (h : k < b.length) : (litsB b).take k ++ [AV.lit (.int .u8 (c : Int))] ++ (litsB b).drop (k + 1) = litsB (b.set k c) := by
  rw [List.set_eq_take_append_cons_drop, if_pos h]
  simp [litsB, List.map_take, List.map_drop]

theorem octs_lenAll (b : List Nat) : lenAll 1 (octs b) = true := by
  induction b with
  | nil => rfl
  | cons x b ih => show (decide _ && lenAll 1 (octs b)) = true; rw [ih]; rfl
theorem octs_oneV (b : List Nat) : oneV (octs b) = true := by
  induction b with
  | nil => rfl
  | cons x b ih => show (_ && oneV (octs b)) = true; rw [ih]; rfl
theorem keyV_fold (x : Nat × Nat × Nat) : [Value.int .i32 ((x.1 : Nat) : Int), .int .i64 ((x.2.1 : Nat) : Int), .int .i64 ((x.2.2 : Nat) : Int)] = keyV x := rfl
theorem keyV_len (x : Nat × Nat × Nat) : (keyV x).length = 3 := rfl
theorem mcC_new (ms : List ((Nat × Nat × Nat) × Nat)) (x : Nat × Nat × Nat) (n : Nat) : mcC ms ++ [.ag [.lit (.int .i32 ((x.1 : Nat) : Int)), .lit (.int .i64 ((x.2.1 : Nat) : Int)), .lit (.int .i64 ((x.2.2 : Nat) : Int))], .lit (.int .i64 ((n : Nat) : Int))] = mcC (ms ++ [(x, n)]) := by
  rw [mcC_append]; rfl
theorem mcC_up (ms : List ((Nat × Nat × Nat) × Nat)) (x : Nat × Nat × Nat) : (mcC (ms ++ [(x, 0)])).set (2 * ms.length + 1) (.lit (.int .i64 1)) = mcC (ms ++ [(x, 1)]) := by
  rw [mcC_append, mcC_append, ← mcC_len, List.set_append_right _ _ (by omega), show (mcC ms).length + 1 - (mcC ms).length = 1 by omega]
  rfl
theorem take_inc (l : List (Nat × Nat × Nat)) (n : Nat) (h : n < l.length) : incC (incsC (l.take n)) l[n] = incsC (l.take (n + 1)) := by
  rw [← incsC_snoc, List.take_append_getElem h]
theorem getC_take (l : List (Nat × Nat × Nat)) (n : Nat) (x : Nat × Nat × Nat) : getC (incsC (l.take n)) x ≤ l.length := by
  rw [getC_count]
  exact Nat.le_trans List.countP_le_length (by rw [List.length_take]; omega)
theorem trips_get (l : List (Nat × Nat × Nat)) (i : Nat) (h : i < l.length) : (codesT l)[i]? = some (keyV l[i]) := codesT_get l i h

set_option maxRecDepth 10000 in
theorem utfOne_pure (b : List Nat) (hb : Octs b) (at_ : Int) (ha : 0 ≤ at_ ∧ at_ ≤ 65535) (c : Int) (hc : 0 ≤ c ∧ c ≤ 255) :
    Pure Try.prog 5 [.sl 5 (octs b) none, .lit (.int .u16 at_), .lit (.int .u8 c)] [] (.lit (.bool true)) := by
  obtain ⟨c, rfl⟩ : ∃ n : Nat, c = n := ⟨c.toNat, by omega⟩
  refine pure0 Try.func5 c5 n5 e5 r5 (by simp) rfl ?_
  simp only [a5, astart, argSlots, go_sem, Nat.reduceAdd, Nat.reduceEqDiff, Nat.reduceLT, reduceIte, reduceCtorEq, Nat.reduceBEq, Int.reduceLT, Int.reduceToNat, Int.reducePow, Nat.reduceLeDiff, Int.reduceLE, Nat.reduceMul, Nat.reduceSub, octs_length]
  by_cases h0 : b.length = 0
  · have e1 : ((b.length : Int) == 0) = true := by simp only [beq_iff_eq]; omega
    simp only [e1, go_sem, Nat.reduceAdd, Nat.reduceEqDiff, Nat.reduceLT, reduceIte, reduceCtorEq, Nat.reduceBEq, Int.reduceLT, Int.reduceToNat, Int.reducePow, Nat.reduceLeDiff, Int.reduceLE, Nat.reduceMul, Nat.reduceSub]
    refine callGo_pure awake01_pure (by rfl) ?_
    simp only [go_sem, Nat.reduceAdd, Nat.reduceEqDiff, Nat.reduceLT, reduceIte, reduceCtorEq, Nat.reduceBEq, Int.reduceLT, Int.reduceToNat, Int.reducePow, Nat.reduceLeDiff, Int.reduceLE, Nat.reduceMul, Nat.reduceSub]
    simp only [Done, resAV, resL, resOne, look_nil, look_cons, Nat.reduceEqDiff, if_true, if_false, reduceIte, ite_true, ite_false, Nat.zero_ne_one, Nat.one_ne_zero, reduceCtorEq, true_or, or_true, true_and, Option.some.injEq, AV.lit.injEq, Value.int.injEq, Value.bool.injEq]
  have e1 : ((b.length : Int) == 0) = false := by simp only [beq_eq_false_iff_ne]; omega
  by_cases h1 : 300 < b.length
  · have e2 : decide ((b.length : Int) > 300) = true := by simp only [decide_eq_true_eq]; omega
    simp only [e1, e2, go_sem, Nat.reduceAdd, Nat.reduceEqDiff, Nat.reduceLT, reduceIte, reduceCtorEq, Nat.reduceBEq, Int.reduceLT, Int.reduceToNat, Int.reducePow, Nat.reduceLeDiff, Int.reduceLE, Nat.reduceMul, Nat.reduceSub, octs_length]
    refine callGo_pure awake01_pure (by rfl) ?_
    simp only [go_sem, Nat.reduceAdd, Nat.reduceEqDiff, Nat.reduceLT, reduceIte, reduceCtorEq, Nat.reduceBEq, Int.reduceLT, Int.reduceToNat, Int.reducePow, Nat.reduceLeDiff, Int.reduceLE, Nat.reduceMul, Nat.reduceSub]
    simp only [Done, resAV, resL, resOne, look_nil, look_cons, Nat.reduceEqDiff, if_true, if_false, reduceIte, ite_true, ite_false, Nat.zero_ne_one, Nat.one_ne_zero, reduceCtorEq, true_or, or_true, true_and, Option.some.injEq, AV.lit.injEq, Value.int.injEq, Value.bool.injEq]
  have e2 : decide ((b.length : Int) > 300) = false := by simp only [decide_eq_false_iff_not]; omega
  have e3 : ((b.length : Int) = 0) = False := by simp only [eq_iff_iff, iff_false]; omega
  have hw : IntKind.i64.wrap at_ = at_ := wrap_i64 _ (by omega) (by omega)
  obtain ⟨k, hk, hkt⟩ : ∃ k : Nat, k < b.length ∧ at_.tmod (b.length : Int) = (k : Int) := by
    refine ⟨(at_.tmod b.length).toNat, ?_, ?_⟩
    · rw [Int.tmod_eq_emod_of_nonneg ha.1]
      have := Int.emod_lt_of_pos at_ (show (0 : Int) < b.length by omega)
      have := Int.emod_nonneg at_ (show (b.length : Int) ≠ 0 by omega)
      omega
    · rw [Int.tmod_eq_emod_of_nonneg ha.1]
      have := Int.emod_nonneg at_ (show (b.length : Int) ≠ 0 by omega)
      omega
  simp only [e1, e2, e3, hw, hkt, go_sem, Nat.reduceAdd, Nat.reduceEqDiff, Nat.reduceLT, reduceIte, reduceCtorEq, Nat.reduceBEq, Int.reduceLT, Int.reduceToNat, Int.reducePow, Nat.reduceLeDiff, Int.reduceLE, Nat.reduceMul, Nat.reduceSub, octs_length, app_row b h0]
  refine ⟨⟨by omega, by omega⟩, ?_⟩
  simp only [hk, go_sem, Nat.reduceAdd, Nat.reduceEqDiff, Nat.reduceLT, reduceIte, reduceCtorEq, Nat.reduceBEq, Int.reduceLT, Int.reduceToNat, Int.reducePow, Nat.reduceLeDiff, Int.reduceLE, Nat.reduceMul, Nat.reduceSub, litsB_len, litsB_unOb, Nat.mul_one, litsB_set b k c hk]
  refine ⟨by omega, ?_⟩
  have hbl : b.length ≤ 1099511627776 := by omega
  refine callGo_pure (codesAt_pure b (trips b) hb.2 hbl rfl) (by rfl) ?_
  simp only [go_sem, Nat.reduceAdd, Nat.reduceEqDiff, Nat.reduceLT, reduceIte, reduceCtorEq, Nat.reduceBEq, Int.reduceLT, Int.reduceToNat, Int.reducePow, Nat.reduceLeDiff, Int.reduceLE, Nat.reduceMul, Nat.reduceSub, codesT_length]
  have hol : (b.set k c).length = b.length := by simp
  have ho255 : ∀ n ∈ b.set k c, n ≤ 255 := fun n hn => by
    rcases List.mem_or_eq_of_mem_set hn with h | h
    · exact hb.2 n h
    · omega
  have hone := fun x hx h => one_code (b := b) (k := k) (c := c) hk (x := x) hx h
  have hol2 : (b.set k c).length ≤ 1099511627776 := by omega
  have codesO := codesAt_pure (b.set k c) (trips (b.set k c)) ho255 hol2 rfl
  have htl : (trips b).length ≤ 300 := by unfold trips; rw [List.length_map]; exact Nat.le_trans (cut_length 0 b) (by omega)
  have hto : (trips (b.set k c)).length ≤ 300 := by unfold trips; rw [List.length_map]; exact Nat.le_trans (cut_length 0 _) (by omega)
  generalize b.set k c = o at hol ho255 hone codesO hto
  have hbx : boxAt [(3, [AV.ob (.map 0 0 0) []]), (2, litsB o)] 2 = some ((octs o).flatten.map .lit ++ []) := by simp only [go_sem, Nat.reduceAdd, Nat.reduceEqDiff, Nat.reduceLT, reduceIte, reduceCtorEq, Nat.reduceBEq, Int.reduceLT, Int.reduceToNat, Int.reducePow, Nat.reduceLeDiff, Int.reduceLE, Nat.reduceMul, Nat.reduceSub, litsB_unOb, octs_flat, List.append_nil]
  refine loop_to (trips b).length (fun i => ⟨[(7, some (.lit (.int .i64 (k : Int)))), (8, some (.sl 5 (octs o) none)), (9, some (.rf .map 0)), (37, some (.sl 27 (codesT (trips b)) none)), (38, some (.lit (.int .i64 ((trips b).length : Int)))), (39, some (.lit (.int .i64 (i : Int))))],
      [(0, [.ob (.map 0 0 (incsC ((trips b).take i)).length) (mcC (incsC ((trips b).take i)))])], [], 1⟩)
    (fun _ => True) ((weak_freeze (els := octs o) (rest := []) 8 rfl hbx (by rw [octs_length, hol]) (octs_lenAll o) (octs_oneV o)).trans ((weak_untip 8 rfl).trans ((weak_untip 37 rfl).trans (weak_by [3] (by simp) rfl ?_ ?_ trivial (by simp))))) trivial ?_ ?_
  · simp only [go_sem, Nat.reduceAdd, Nat.reduceEqDiff, Nat.reduceLT, reduceIte, reduceCtorEq, Nat.reduceBEq, Int.reduceLT, Int.reduceToNat, Int.reducePow, Nat.reduceLeDiff, Int.reduceLE, Nat.reduceMul, Nat.reduceSub, slotsBy, boxesBy, tipsBy, rawAt, nm, AV.ren, AV.renL, AV.under, AV.underL, List.all_nil, List.all_cons, bne_self_eq_false, List.getD_cons_zero, List.getD_cons_succ, List.length_nil, List.length_cons, and_true, true_and, Int.natCast_zero]
  · simp only [go_sem, Nat.reduceAdd, Nat.reduceEqDiff, Nat.reduceLT, reduceIte, reduceCtorEq, Nat.reduceBEq, Int.reduceLT, Int.reduceToNat, Int.reducePow, Nat.reduceLeDiff, Int.reduceLE, Nat.reduceMul, Nat.reduceSub, slotsBy, boxesBy, tipsBy, rawAt, nm, AV.ren, AV.renL, AV.under, AV.underL, List.all_nil, List.all_cons, bne_self_eq_false, List.getD_cons_zero, List.getD_cons_succ, List.length_nil, List.length_cons, and_true, true_and, List.take_zero]
    exact ⟨rfl, rfl⟩
  · intro i hi _
    have hget := codesT_get (trips b) i hi
    have htk := take_inc (trips b) i hi
    have hgt := getC_take (trips b) i (trips b)[i]
    generalize (trips b)[i] = x at hget htk hgt
    generalize incsC ((trips b).take i) = ms at htk hgt
    rw [← htk]
    simp only [go_sem, Nat.reduceAdd, Nat.reduceEqDiff, Nat.reduceLT, reduceIte, reduceCtorEq, Nat.reduceBEq, Int.reduceLT, Int.reduceToNat, Int.reducePow, Nat.reduceLeDiff, Int.reduceLE, Nat.reduceMul, Nat.reduceSub, dec_lt hi, hi, hget, Int.natCast_nonneg, Int.toNat_natCast]
    refine dtr_to ⟨[(7, some (.lit (.int .i64 (k : Int)))), (8, some (.sl 5 (octs o) none)), (9, some (.rf .map 0)), (37, some (.sl 27 (codesT (trips b)) none)), (38, some (.lit (.int .i64 ((trips b).length : Int)))), (39, some (.lit (.int .i64 (i : Int))))],
      [(0, [.ob (.map 0 0 (incC ms x).length) (mcC (incC ms x))])], [], 1⟩ ?_ ?_
    · cases hx : idxC ms x 0 with
      | none =>
        obtain ⟨g0, g1, g2⟩ := mc_none x ms 0 hx
        have f1 := find_idx x ms 0
        have f2 := find_idx x (ms ++ [(x, 0)]) 0
        rw [hx] at f1
        rw [g2, Nat.zero_add] at f2
        have hnew := mcC_new ms x 0
        rw [Int.natCast_zero] at hnew
        have hup := mcC_up ms x
        rw [← g1] at hup
        have hll : (incC ms x).length = ms.length + 1 := by rw [g1]; simp
        have w1 : IntKind.i64.wrap (0 + 1) = 1 := rfl
        have hc1 : ((ms.length : Int) < ((ms.length + 1 : Nat) : Int)) = True := by simp only [eq_iff_iff, iff_true]; omega
        simp only [go_sem, Nat.reduceAdd, Nat.reduceEqDiff, Nat.reduceLT, reduceIte, reduceCtorEq, Nat.reduceBEq, Int.reduceLT, Int.reduceToNat, Int.reducePow, Nat.reduceLeDiff, Int.reduceLE, Nat.reduceMul, Nat.reduceSub, keyV_fold, keyV_len, f1, f2, hnew, w1, hc1, Int.toNat_natCast, hup]
        rw [← hll]
        refine ⟨?_, ?_⟩
        all_goals
          refine weak_by [0] (by simp) rfl ?_ ?_ trivial (by simp)
          · simp only [go_sem, Nat.reduceAdd, Nat.reduceEqDiff, Nat.reduceLT, reduceIte, reduceCtorEq, Nat.reduceBEq, Int.reduceLT, Int.reduceToNat, Int.reducePow, Nat.reduceLeDiff, Int.reduceLE, Nat.reduceMul, Nat.reduceSub, slotsBy, boxesBy, tipsBy, rawAt, nm, AV.ren, AV.renL, AV.under, AV.underL, List.all_nil, List.all_cons, bne_self_eq_false, List.getD_cons_zero, List.getD_cons_succ, List.length_nil, List.length_cons, and_true, true_and]
          · simp only [go_sem, Nat.reduceAdd, Nat.reduceEqDiff, Nat.reduceLT, reduceIte, reduceCtorEq, Nat.reduceBEq, Int.reduceLT, Int.reduceToNat, Int.reducePow, Nat.reduceLeDiff, Int.reduceLE, Nat.reduceMul, Nat.reduceSub, slotsBy, boxesBy, tipsBy, rawAt, nm, AV.ren, AV.renL, AV.under, AV.underL, List.all_nil, List.all_cons, bne_self_eq_false, List.getD_cons_zero, List.getD_cons_succ, List.length_nil, List.length_cons, and_true, true_and, mcC_ren, mcC_under, hup]
      | some p =>
        obtain ⟨j, rfl, hj, hup, hll⟩ := mc_some x ms 0 p hx
        have f1 := find_idx x ms 0
        rw [hx, Nat.zero_add] at f1
        have w1 : IntKind.i64.wrap ((getC ms x : Int) + 1) = ((getC ms x + 1 : Nat) : Int) := by rw [wrap_i64 _ (by omega) (by omega)]; omega
        have hc1 : ((j : Int) < (ms.length : Int)) = True := by simp only [eq_iff_iff, iff_true]; omega
        simp only [go_sem, Nat.reduceAdd, Nat.reduceEqDiff, Nat.reduceLT, reduceIte, reduceCtorEq, Nat.reduceBEq, Int.reduceLT, Int.reduceToNat, Int.reducePow, Nat.reduceLeDiff, Int.reduceLE, Nat.reduceMul, Nat.reduceSub, keyV_fold, keyV_len, f1, w1, hc1, Int.toNat_natCast, hup]
        rw [hll]
        refine ⟨?_, ?_⟩
        all_goals
          refine weak_by [0] (by simp) rfl ?_ ?_ trivial (by simp)
          · simp only [go_sem, Nat.reduceAdd, Nat.reduceEqDiff, Nat.reduceLT, reduceIte, reduceCtorEq, Nat.reduceBEq, Int.reduceLT, Int.reduceToNat, Int.reducePow, Nat.reduceLeDiff, Int.reduceLE, Nat.reduceMul, Nat.reduceSub, slotsBy, boxesBy, tipsBy, rawAt, nm, AV.ren, AV.renL, AV.under, AV.underL, List.all_nil, List.all_cons, bne_self_eq_false, List.getD_cons_zero, List.getD_cons_succ, List.length_nil, List.length_cons, and_true, true_and]
          · simp only [go_sem, Nat.reduceAdd, Nat.reduceEqDiff, Nat.reduceLT, reduceIte, reduceCtorEq, Nat.reduceBEq, Int.reduceLT, Int.reduceToNat, Int.reducePow, Nat.reduceLeDiff, Int.reduceLE, Nat.reduceMul, Nat.reduceSub, slotsBy, boxesBy, tipsBy, rawAt, nm, AV.ren, AV.renL, AV.under, AV.underL, List.all_nil, List.all_cons, bne_self_eq_false, List.getD_cons_zero, List.getD_cons_succ, List.length_nil, List.length_cons, and_true, true_and, mcC_ren, mcC_under, hup]
    · simp only [go_sem, Nat.reduceAdd, Nat.reduceEqDiff, Nat.reduceLT, reduceIte, reduceCtorEq, Nat.reduceBEq, Int.reduceLT, Int.reduceToNat, Int.reducePow, Nat.reduceLeDiff, Int.reduceLE, Nat.reduceMul, Nat.reduceSub]
      simp (disch := omega) only [wrap_i64]
      refine weak_by [0] (by simp) rfl ?_ ?_ trivial (by simp)
      · simp only [go_sem, Nat.reduceAdd, Nat.reduceEqDiff, Nat.reduceLT, reduceIte, reduceCtorEq, Nat.reduceBEq, Int.reduceLT, Int.reduceToNat, Int.reducePow, Nat.reduceLeDiff, Int.reduceLE, Nat.reduceMul, Nat.reduceSub, slotsBy, boxesBy, tipsBy, rawAt, nm, AV.ren, AV.renL, AV.under, AV.underL, List.all_nil, List.all_cons, bne_self_eq_false, List.getD_cons_zero, List.getD_cons_succ, List.length_nil, List.length_cons, and_true, true_and, Int.natCast_add, Int.natCast_one]
      · simp only [go_sem, Nat.reduceAdd, Nat.reduceEqDiff, Nat.reduceLT, reduceIte, reduceCtorEq, Nat.reduceBEq, Int.reduceLT, Int.reduceToNat, Int.reducePow, Nat.reduceLeDiff, Int.reduceLE, Nat.reduceMul, Nat.reduceSub, slotsBy, boxesBy, tipsBy, rawAt, nm, AV.ren, AV.renL, AV.under, AV.underL, List.all_nil, List.all_cons, bne_self_eq_false, List.getD_cons_zero, List.getD_cons_succ, List.length_nil, List.length_cons, and_true, true_and, mcC_ren, mcC_under]
  · intro _
    rw [List.take_length]
    have hM : ∀ x ∈ trips o, (x.2.2 : Int) ≤ (k : Int) - 3 ∨ (x.2.1 : Int) > (k : Int) + 3 → getC (incsC (trips b)) x = 1 := fun x hx h => by rw [getC_count]; exact hone x hx h
    generalize incsC (trips b) = M at hM
    have w3 : IntKind.i64.wrap ((k : Int) - 3) = (k : Int) - 3 := wrap_i64 _ (by omega) (by omega)
    have w4 : IntKind.i64.wrap ((k : Int) + 3) = (k : Int) + 3 := wrap_i64 _ (by omega) (by omega)
    simp only [go_sem, Nat.reduceAdd, Nat.reduceEqDiff, Nat.reduceLT, reduceIte, reduceCtorEq, Nat.reduceBEq, Int.reduceLT, Int.reduceToNat, Int.reducePow, Nat.reduceLeDiff, Int.reduceLE, Nat.reduceMul, Nat.reduceSub]
    refine callGo_pure codesO (by rfl) ?_
    simp only [go_sem, Nat.reduceAdd, Nat.reduceEqDiff, Nat.reduceLT, reduceIte, reduceCtorEq, Nat.reduceBEq, Int.reduceLT, Int.reduceToNat, Int.reducePow, Nat.reduceLeDiff, Int.reduceLE, Nat.reduceMul, Nat.reduceSub, codesT_length]
    refine loop_to (trips o).length (fun i => ⟨[(7, some (.lit (.int .i64 (k : Int)))), (8, some (.sl 5 (octs o) none)), (9, some (.rf .map 0)), (51, some (.sl 27 (codesT (trips o)) none)), (52, some (.lit (.int .i64 ((trips o).length : Int)))), (53, some (.lit (.int .i64 (i : Int))))],
        [(0, [.ob (.map 0 0 M.length) (mcC M)])], [], 1⟩)
      (fun _ => True) ((weak_untip 51 rfl).trans (weak_by [0] (by simp) rfl ?_ ?_ trivial (by simp))) trivial ?_ ?_
    · simp only [go_sem, Nat.reduceAdd, Nat.reduceEqDiff, Nat.reduceLT, reduceIte, reduceCtorEq, Nat.reduceBEq, Int.reduceLT, Int.reduceToNat, Int.reducePow, Nat.reduceLeDiff, Int.reduceLE, Nat.reduceMul, Nat.reduceSub, slotsBy, boxesBy, tipsBy, rawAt, nm, AV.ren, AV.renL, AV.under, AV.underL, List.all_nil, List.all_cons, bne_self_eq_false, List.getD_cons_zero, List.getD_cons_succ, List.length_nil, List.length_cons, and_true, true_and, Int.natCast_zero]
    · simp only [go_sem, Nat.reduceAdd, Nat.reduceEqDiff, Nat.reduceLT, reduceIte, reduceCtorEq, Nat.reduceBEq, Int.reduceLT, Int.reduceToNat, Int.reducePow, Nat.reduceLeDiff, Int.reduceLE, Nat.reduceMul, Nat.reduceSub, slotsBy, boxesBy, tipsBy, rawAt, nm, AV.ren, AV.renL, AV.under, AV.underL, List.all_nil, List.all_cons, bne_self_eq_false, List.getD_cons_zero, List.getD_cons_succ, List.length_nil, List.length_cons, and_true, true_and, mcC_ren, mcC_under]
    · intro i hi _
      have hget := codesT_get (trips o) i hi
      have hMx := hM _ (List.getElem_mem hi)
      generalize (trips o)[i] = x at hget hMx
      have hlk := lkp_code x M
      have ne1 : ((1 : Int) != 1) = false := rfl
      simp only [go_sem, Nat.reduceAdd, Nat.reduceEqDiff, Nat.reduceLT, reduceIte, reduceCtorEq, Nat.reduceBEq, Int.reduceLT, Int.reduceToNat, Int.reducePow, Nat.reduceLeDiff, Int.reduceLE, Nat.reduceMul, Nat.reduceSub, dec_lt hi, hi, hget, Int.natCast_nonneg, Int.toNat_natCast, w3]
      cases a1 : decide ((x.2.2 : Int) ≤ (k : Int) - 3)
      · simp only [go_sem, Nat.reduceAdd, Nat.reduceEqDiff, Nat.reduceLT, reduceIte, reduceCtorEq, Nat.reduceBEq, Int.reduceLT, Int.reduceToNat, Int.reducePow, Nat.reduceLeDiff, Int.reduceLE, Nat.reduceMul, Nat.reduceSub, a1, w4]
        cases a2 : decide ((x.2.1 : Int) > (k : Int) + 3)
        · simp only [go_sem, Nat.reduceAdd, Nat.reduceEqDiff, Nat.reduceLT, reduceIte, reduceCtorEq, Nat.reduceBEq, Int.reduceLT, Int.reduceToNat, Int.reducePow, Nat.reduceLeDiff, Int.reduceLE, Nat.reduceMul, Nat.reduceSub, a2]
          simp (disch := omega) only [wrap_i64]
          refine weak_by [0] (by simp) rfl ?_ ?_ trivial (by simp)
          · simp only [go_sem, Nat.reduceAdd, Nat.reduceEqDiff, Nat.reduceLT, reduceIte, reduceCtorEq, Nat.reduceBEq, Int.reduceLT, Int.reduceToNat, Int.reducePow, Nat.reduceLeDiff, Int.reduceLE, Nat.reduceMul, Nat.reduceSub, slotsBy, boxesBy, tipsBy, rawAt, nm, AV.ren, AV.renL, AV.under, AV.underL, List.all_nil, List.all_cons, bne_self_eq_false, List.getD_cons_zero, List.getD_cons_succ, List.length_nil, List.length_cons, and_true, true_and, Int.natCast_add, Int.natCast_one]
          · simp only [go_sem, Nat.reduceAdd, Nat.reduceEqDiff, Nat.reduceLT, reduceIte, reduceCtorEq, Nat.reduceBEq, Int.reduceLT, Int.reduceToNat, Int.reducePow, Nat.reduceLeDiff, Int.reduceLE, Nat.reduceMul, Nat.reduceSub, slotsBy, boxesBy, tipsBy, rawAt, nm, AV.ren, AV.renL, AV.under, AV.underL, List.all_nil, List.all_cons, bne_self_eq_false, List.getD_cons_zero, List.getD_cons_succ, List.length_nil, List.length_cons, and_true, true_and, mcC_ren, mcC_under]
        · have hg := hMx (.inr (by simpa using a2))
          rw [hg] at hlk
          simp only [go_sem, Nat.reduceAdd, Nat.reduceEqDiff, Nat.reduceLT, reduceIte, reduceCtorEq, Nat.reduceBEq, Int.reduceLT, Int.reduceToNat, Int.reducePow, Nat.reduceLeDiff, Int.reduceLE, Nat.reduceMul, Nat.reduceSub, a2, keyV_fold, keyV_len, hlk, Int.natCast_one, ne1]
          simp (disch := omega) only [wrap_i64]
          refine weak_by [0] (by simp) rfl ?_ ?_ trivial (by simp)
          · simp only [go_sem, Nat.reduceAdd, Nat.reduceEqDiff, Nat.reduceLT, reduceIte, reduceCtorEq, Nat.reduceBEq, Int.reduceLT, Int.reduceToNat, Int.reducePow, Nat.reduceLeDiff, Int.reduceLE, Nat.reduceMul, Nat.reduceSub, slotsBy, boxesBy, tipsBy, rawAt, nm, AV.ren, AV.renL, AV.under, AV.underL, List.all_nil, List.all_cons, bne_self_eq_false, List.getD_cons_zero, List.getD_cons_succ, List.length_nil, List.length_cons, and_true, true_and, Int.natCast_add, Int.natCast_one]
          · simp only [go_sem, Nat.reduceAdd, Nat.reduceEqDiff, Nat.reduceLT, reduceIte, reduceCtorEq, Nat.reduceBEq, Int.reduceLT, Int.reduceToNat, Int.reducePow, Nat.reduceLeDiff, Int.reduceLE, Nat.reduceMul, Nat.reduceSub, slotsBy, boxesBy, tipsBy, rawAt, nm, AV.ren, AV.renL, AV.under, AV.underL, List.all_nil, List.all_cons, bne_self_eq_false, List.getD_cons_zero, List.getD_cons_succ, List.length_nil, List.length_cons, and_true, true_and, mcC_ren, mcC_under]
      · have hg := hMx (.inl (by simpa using a1))
        rw [hg] at hlk
        simp only [go_sem, Nat.reduceAdd, Nat.reduceEqDiff, Nat.reduceLT, reduceIte, reduceCtorEq, Nat.reduceBEq, Int.reduceLT, Int.reduceToNat, Int.reducePow, Nat.reduceLeDiff, Int.reduceLE, Nat.reduceMul, Nat.reduceSub, a1, keyV_fold, keyV_len, hlk, Int.natCast_one, ne1]
        simp (disch := omega) only [wrap_i64]
        refine weak_by [0] (by simp) rfl ?_ ?_ trivial (by simp)
        · simp only [go_sem, Nat.reduceAdd, Nat.reduceEqDiff, Nat.reduceLT, reduceIte, reduceCtorEq, Nat.reduceBEq, Int.reduceLT, Int.reduceToNat, Int.reducePow, Nat.reduceLeDiff, Int.reduceLE, Nat.reduceMul, Nat.reduceSub, slotsBy, boxesBy, tipsBy, rawAt, nm, AV.ren, AV.renL, AV.under, AV.underL, List.all_nil, List.all_cons, bne_self_eq_false, List.getD_cons_zero, List.getD_cons_succ, List.length_nil, List.length_cons, and_true, true_and, Int.natCast_add, Int.natCast_one]
        · simp only [go_sem, Nat.reduceAdd, Nat.reduceEqDiff, Nat.reduceLT, reduceIte, reduceCtorEq, Nat.reduceBEq, Int.reduceLT, Int.reduceToNat, Int.reducePow, Nat.reduceLeDiff, Int.reduceLE, Nat.reduceMul, Nat.reduceSub, slotsBy, boxesBy, tipsBy, rawAt, nm, AV.ren, AV.renL, AV.under, AV.underL, List.all_nil, List.all_cons, bne_self_eq_false, List.getD_cons_zero, List.getD_cons_succ, List.length_nil, List.length_cons, and_true, true_and, mcC_ren, mcC_under]
    · intro _
      have hpos : decide (((trips o).length : Int) > 0) = true := by
        have h := cut_drop (b := o) (i := 0) (by omega)
        rw [List.drop_zero] at h
        simp only [decide_eq_true_eq, trips, h, List.map_cons, List.length_cons]
        omega
      simp only [go_sem, Nat.reduceAdd, Nat.reduceEqDiff, Nat.reduceLT, reduceIte, reduceCtorEq, Nat.reduceBEq, Int.reduceLT, Int.reduceToNat, Int.reducePow, Nat.reduceLeDiff, Int.reduceLE, Nat.reduceMul, Nat.reduceSub, dec_irr]
      refine callGo_pure codesO (by rfl) ?_
      simp only [go_sem, Nat.reduceAdd, Nat.reduceEqDiff, Nat.reduceLT, reduceIte, reduceCtorEq, Nat.reduceBEq, Int.reduceLT, Int.reduceToNat, Int.reducePow, Nat.reduceLeDiff, Int.reduceLE, Nat.reduceMul, Nat.reduceSub, codesT_length, hpos]
      refine callGo_pure awake01_pure (by rfl) ?_
      simp only [go_sem, Nat.reduceAdd, Nat.reduceEqDiff, Nat.reduceLT, reduceIte, reduceCtorEq, Nat.reduceBEq, Int.reduceLT, Int.reduceToNat, Int.reducePow, Nat.reduceLeDiff, Int.reduceLE, Nat.reduceMul, Nat.reduceSub]
      simp only [Done, resAV, resL, resOne, look_nil, look_cons, Nat.reduceEqDiff, if_true, if_false, reduceIte, ite_true, ite_false, Nat.zero_ne_one, Nat.one_ne_zero, reduceCtorEq, true_or, or_true, true_and, Option.some.injEq, AV.lit.injEq, Value.int.injEq, Value.bool.injEq]
theorem utfOne_any (avs : List AV) (h : Args Try.prog Try.f5.params.toList avs) : Pure Try.prog 5 avs [] (.lit (.bool true)) := by
  have hp : Try.f5.params.toList = [22, 23, 5] := by kernel_rfl
  rw [hp] at h
  obtain ⟨av0, rest0, rfl, a0, h0⟩ := h
  obtain ⟨av1, rest1, rfl, a1, h1⟩ := h0
  obtain ⟨av2, rest2, rfl, a2, rfl⟩ := h1
  obtain ⟨z0, rfl, w0, s0⟩ := arg_ints (e := 5) (k := .u8) (by kernel_rfl) (by kernel_rfl) a0
  rw [show Try.prog.bytesOf 5 = 1 from by kernel_rfl] at s0
  obtain ⟨y0, e0, v0, k0⟩ := octs_of z0 (fun n hn => by simpa [Lit.wf, IntKind.min, IntKind.max, IntKind.signed, IntKind.bits] using w0 n hn)
  rw [e0]
  obtain ⟨z1, rfl, w1⟩ := arg_int (k := .u16) (by kernel_rfl) a1
  obtain ⟨z2, rfl, w2⟩ := arg_int (k := .u8) (by kernel_rfl) a2
  exact utfOne_pure y0 ⟨by omega, v0⟩ z1 (by simpa [Lit.wf, IntKind.min, IntKind.max, IntKind.signed, IntKind.bits] using w1) z2 (by simpa [Lit.wf, IntKind.min, IntKind.max, IntKind.signed, IntKind.bits] using w2)

set_option maxRecDepth 100000 in
theorem utfOne_lifted (os : Os) (started : os.Started) (H : Type) (enc : TypeId × Value → H) :
    ReturnsInHanded {} Try.checked os 5 .any (Rows.utfOneSpec.pre6 enc Try.prog Try.f5 Rows.utfOneRow.domain false) (Rows.utfOneSpec.post enc Try.prog Try.f5 false true false false) := by
  refine law_returns (C := Try.checked) (tb := 4) (by kernel_rfl) started (by kernel_rfl) Try.func5
    (ChangeSpec.witness6 (enc := enc) (C := Try.checked) false ⟨#[], #[.slice none 0 0, .int .u16 0, .int .u8 0], []⟩ 8 (by kernel_rfl) (by kernel_rfl) (by kernel_rfl) (by kernel_rfl))
    (by kernel_rfl) (by kernel_rfl) rfl rfl (by kernel_rfl) (by kernel_rfl) ?_ utfOne_any
  intro ds hds
  have hp : Try.f5.params.toList = [22, 23, 5] := by kernel_rfl
  rw [hp] at hds
  match ds, hds with
  | [d0, d1, d2], _ => exact ⟨rfl, rfl, rfl⟩

theorem utfOne_holds : Rows.UtfOneSaid :=
  OpenClaim.holds_of_wide 5 Try.f5 rfl rfl rfl rfl rfl rfl rfl ⟨rfl, rfl, rfl, rfl, rfl⟩ rfl rfl rfl rfl rfl (by kernel_rfl) Try.func5 (by kernel_rfl)
    (of_decide_eq_true (by kernel_rfl)) (by unfold Func.isWrapper; first | (rw [if_pos (by decide +kernel)]; kernel_rfl) | (rw [if_neg (by decide +kernel)]; exact ⟨rfl, rfl⟩))
    (fun os started H enc _ => utfOne_lifted os started H enc)
end Go.Proofs.Ytbnaepdeakcljaa
