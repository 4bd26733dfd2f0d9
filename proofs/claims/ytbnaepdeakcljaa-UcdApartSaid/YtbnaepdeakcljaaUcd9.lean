/-
The rows of the table rise, and each code point of a row has what the row says: the statement UcdRows. Conditions: none.
-/
import Derived.Test.YtbnaepdeakcljaaUcd8
set_option linter.unusedSimpArgs false
set_option linter.unusedVariables false
set_option linter.unusedSectionVars false
namespace Go.Proofs.Ytbnaepdeakcljaa
open Go Go.Ab Go.ChangeShapes Go.WideShapes Go.ChangeAt Go.RowKit
def a10 : ACode :=
  (.seq (.reg [⟨(.some 6), (.mv (.k (.bool false))), .none⟩]) (.seq (.reg [⟨(.some 12), (.call (.f 28) []), .none⟩, ⟨(.some 7), (.mv (.t 12)), .none⟩]) (.seq (.seq (.reg [⟨(.some 13), (.mv (.t 7)),
  .none⟩, ⟨(.some 14), (.len (.t 13)), .none⟩, ⟨(.some 15), (.bin .eql (.t 14) (.k (.int .i64 0))), .none⟩]) (.cond (.t 15) (.seq (.reg [⟨(.some 6), (.mv (.k (.bool false))), .none⟩]) .ret) .skip))
  (.seq (.reg [⟨(.some 8), (.mv (.k (.int .i64 0))), .none⟩]) (.seq (.seq (.reg [⟨(.some 16), (.mv (.t 7)), .none⟩, ⟨(.some 17), (.len (.t 16)), .none⟩, ⟨(.some 18), (.mv (.k (.int .i64 0))), .none⟩])
  (.block 0 (.loop (.seq (.reg [⟨(.some 19), (.bin .lss (.t 18) (.t 17)), .none⟩]) (.seq (.cond (.t 19) .skip (.exit 0)) (.seq (.block 1 (.seq (.reg [⟨(.some 20), (.mv (.t 18)), .none⟩, ⟨(.some 21),
  (.ia 48 (.t 16) (.t 18)), .none⟩, ⟨(.some 22), (.ld (.some 9) (.t 21)), .none⟩, ⟨(.some 10), (.alc 48 [(.int .i32 0), (.int .i32 0), (.int .u8 0), (.int .u8 0), (.int .u8 0), (.int .u8 0), (.int .u8
  0), (.int .u8 0), (.int .u8 0)]), .none⟩, ⟨(.some 9), (.mv (.t 20)), .none⟩, ⟨.none, (.st 9 (.t 10) (.t 22)), .none⟩]) (.seq (.seq (.dreg [⟨(.some 23), (.fa 0 (.t 10)), .none⟩, ⟨(.some 24), (.ld .none
  (.t 23)), .none⟩, ⟨(.some 25), (.fa 1 (.t 10)), .none⟩, ⟨(.some 26), (.ld .none (.t 25)), .none⟩, ⟨(.some 27), (.bin .gtr (.t 24) (.t 26)), .none⟩, ⟨(.some 28), (.mv (.t 27)), .none⟩, ⟨(.some 29),
  (.mv (.t 9)), (.some (28, false))⟩, ⟨(.some 30), (.bin .gtr (.t 29) (.k (.int .i64 0))), (.some (28, false))⟩, ⟨(.some 31), (.mv (.t 30)), (.some (28, false))⟩, ⟨(.some 32), (.mv (.t 7)), (.some (31,
  true))⟩, ⟨(.some 33), (.mv (.t 9)), (.some (31, true))⟩, ⟨(.some 34), (.bin .sub (.t 33) (.k (.int .i64 1))), (.some (31, true))⟩, ⟨(.some 35), (.ia 48 (.t 32) (.t 34)), (.some (31, true))⟩, ⟨(.some
  36), (.fa 1 (.t 35)), (.some (31, true))⟩, ⟨(.some 37), (.ld .none (.t 36)), (.some (31, true))⟩, ⟨(.some 38), (.fa 0 (.t 10)), (.some (31, true))⟩, ⟨(.some 39), (.ld .none (.t 38)), (.some (31,
  true))⟩, ⟨(.some 40), (.bin .geq (.t 37) (.t 39)), (.some (31, true))⟩, ⟨(.some 41), (.pick (.t 31) (.t 40) (.k (.bool false))), (.some (28, false))⟩, ⟨(.some 42), (.pick (.t 28) (.k (.bool true)) (.t
  41)), .none⟩]) (.cond (.t 42) (.seq (.reg [⟨(.some 6), (.mv (.k (.bool false))), .none⟩]) .ret) .skip)) (.seq (.reg [⟨(.some 43), (.mv (.t 2)), .none⟩, ⟨(.some 44), (.fa 0 (.t 10)), .none⟩, ⟨(.some
  45), (.ld .none (.t 44)), .none⟩, ⟨(.some 46), (.bin .geq (.t 43) (.t 45)), .none⟩, ⟨(.some 47), (.mv (.t 46)), .none⟩, ⟨(.some 48), (.mv (.t 2)), (.some (47, true))⟩, ⟨(.some 49), (.fa 1 (.t 10)),
  (.some (47, true))⟩, ⟨(.some 50), (.ld .none (.t 49)), (.some (47, true))⟩, ⟨(.some 51), (.bin .leq (.t 48) (.t 50)), (.some (47, true))⟩, ⟨(.some 52), (.pick (.t 47) (.t 51) (.k (.bool false))),
  .none⟩]) (.cond (.t 52) (.seq (.reg [⟨(.some 53), (.mv (.t 8)), .none⟩, ⟨(.some 54), (.bin .add (.t 53) (.k (.int .i64 1))), .none⟩, ⟨(.some 8), (.mv (.t 54)), .none⟩]) (.seq (.dreg [⟨(.some 55), (.mv
  (.t 2)), .none⟩, ⟨(.some 56), (.call (.f 30) [(.t 55)]), .none⟩, ⟨(.some 57), (.fa 2 (.t 10)), .none⟩, ⟨(.some 58), (.ld (.some 7) (.t 57)), .none⟩, ⟨(.some 59), (.eqg true [.int, .int, .int, .int,
  .int, .int, .int] (.t 56) (.t 58)), .none⟩]) (.cond (.t 59) (.seq (.reg [⟨(.some 6), (.mv (.k (.bool false))), .none⟩]) .ret) .skip))) .skip))))) (.reg [⟨(.some 60), (.bin .add (.t 18) (.k (.int .i64
  1))), .none⟩, ⟨(.some 18), (.mv (.t 60)), .none⟩]))))))) (.seq (.reg [⟨(.some 61), (.mv (.t 7)), .none⟩, ⟨(.some 62), (.mv (.t 0)), .none⟩, ⟨(.some 63), (.cvI .i64 (.t 62)), .none⟩, ⟨(.some 64), (.mv
  (.t 7)), .none⟩, ⟨(.some 65), (.len (.t 64)), .none⟩, ⟨(.some 66), (.bin .rem (.t 63) (.t 65)), .none⟩, ⟨(.some 67), (.ia 48 (.t 61) (.t 66)), .none⟩, ⟨(.some 68), (.ld (.some 9) (.t 67)), .none⟩,
  ⟨(.some 11), (.alc 48 [(.int .i32 0), (.int .i32 0), (.int .u8 0), (.int .u8 0), (.int .u8 0), (.int .u8 0), (.int .u8 0), (.int .u8 0), (.int .u8 0)]), .none⟩, ⟨.none, (.st 9 (.t 11) (.t 68)),
  .none⟩]) (.seq (.seq (.dreg [⟨(.some 69), (.fa 0 (.t 11)), .none⟩, ⟨(.some 70), (.ld .none (.t 69)), .none⟩, ⟨(.some 71), (.mv (.t 1)), .none⟩, ⟨(.some 72), (.cvI .i64 (.t 71)), .none⟩, ⟨(.some 73),
  (.fa 1 (.t 11)), .none⟩, ⟨(.some 74), (.ld .none (.t 73)), .none⟩, ⟨(.some 75), (.fa 0 (.t 11)), .none⟩, ⟨(.some 76), (.ld .none (.t 75)), .none⟩, ⟨(.some 77), (.bin .sub (.t 74) (.t 76)), .none⟩,
  ⟨(.some 78), (.bin .add (.t 77) (.k (.int .i32 1))), .none⟩, ⟨(.some 79), (.cvI .i64 (.t 78)), .none⟩, ⟨(.some 80), (.bin .rem (.t 72) (.t 79)), .none⟩, ⟨(.some 81), (.cvI .i32 (.t 80)), .none⟩,
  ⟨(.some 82), (.bin .add (.t 70) (.t 81)), .none⟩, ⟨(.some 83), (.call (.f 30) [(.t 82)]), .none⟩, ⟨(.some 84), (.fa 2 (.t 11)), .none⟩, ⟨(.some 85), (.ld (.some 7) (.t 84)), .none⟩, ⟨(.some 86), (.eqg
  true [.int, .int, .int, .int, .int, .int, .int] (.t 83) (.t 85)), .none⟩]) (.cond (.t 86) (.seq (.reg [⟨(.some 6), (.mv (.k (.bool false))), .none⟩]) .ret) .skip)) (.seq (.reg [⟨(.some 87), (.mv (.t
  8)), .none⟩, ⟨(.some 88), (.bin .leq (.t 87) (.k (.int .i64 1))), .none⟩, ⟨(.some 89), (.mv (.t 88)), .none⟩, ⟨(.some 90), (.mv (.t 8)), (.some (89, true))⟩, ⟨(.some 91), (.bin .eql (.t 90) (.k (.int
  .i64 1))), (.some (89, true))⟩, ⟨(.some 92), (.mv (.t 91)), (.some (89, true))⟩, ⟨(.some 93), (.mv (.t 2)), (.some (92, false))⟩, ⟨(.some 94), (.call (.f 30) [(.t 93)]), (.some (92, false))⟩, ⟨(.some
  95), (.bd [(.int .u8 0), (.int .u8 0), (.int .u8 0), (.int .u8 0), (.int .u8 0), (.int .u8 0), (.int .u8 0)] [(6, (1, (.k (.int .u8 1))))]), (.some (92, false))⟩, ⟨(.some 96), (.eqg false [.int, .int,
  .int, .int, .int, .int, .int] (.t 94) (.t 95)), (.some (92, false))⟩, ⟨(.some 97), (.pick (.t 92) (.k (.bool true)) (.t 96)), (.some (89, true))⟩, ⟨(.some 98), (.pick (.t 89) (.t 97) (.k (.bool
  false))), .none⟩, ⟨(.some 99), (.mv (.t 98)), .none⟩, ⟨(.some 100), (.call (.f 34) []), (.some (99, true))⟩, ⟨(.some 101), (.pick (.t 99) (.t 100) (.k (.bool false))), .none⟩, ⟨(.some 6), (.mv (.t
  101)), .none⟩]) .ret))))))))
theorem c10 : Try.f10.body.bind (cCode Try.prog 102) = some a10 := by kernel_rfl
theorem r10 : Try.f10.results.toList = [(.tmp 6)] := by kernel_rfl
theorem n10 : Try.f10.ntmps = 102 := by kernel_rfl
theorem e10 : Enters Try.prog 10 := enters_of Try.func10 (by kernel_rfl) (by kernel_rfl)

def plainRow : Row := ⟨0, 0, 0, 0, 0, 0, 0, 0, 1⟩
theorem part_bounds : (t1.all (fun x => decide (x.to < 127)) && (t2.all (fun x => decide (127 ≤ x.fr) && decide (x.to < 1030)) && (t3.all (fun x => decide (1030 ≤ x.fr) && decide (x.to < 1617)) && (t4.all (fun x => decide (1617 ≤ x.fr) && decide (x.to < 8238)) && t5.all (fun x => decide (8238 ≤ x.fr)))))) = true := by kernel_rfl
theorem tab_rising : rising tab = true := by
  have h := tab_ok
  simp only [Bool.and_eq_true] at h
  exact h.1
theorem part_sub {x : Row} {r : Int} : x ∈ partOf r → x ∈ tab := partOf_cases (p := fun l => x ∈ l → x ∈ tab) (by intro h; simp [tab, h]) (by intro h; simp [tab, h]) (by intro h; simp [tab, h]) (by intro h; simp [tab, h]) (by intro h; simp [tab, h]) r
theorem part_in {x : Row} (hx : x ∈ tab) {r : Int} (h1 : x.fr ≤ r) (h2 : r ≤ x.to) : x ∈ partOf r := by
  have hb := part_bounds
  simp only [Bool.and_eq_true, List.all_eq_true, decide_eq_true_eq] at hb
  obtain ⟨b1, b2, b3, b4, b5⟩ := hb
  simp only [tab, List.mem_append] at hx
  unfold partOf
  rcases hx with (((hx | hx) | hx) | hx) | hx
  · have := b1 x hx; rw [if_pos (by omega)]; exact hx
  · have := b2 x hx; rw [if_neg (by omega), if_pos (by omega)]; exact hx
  · have := b3 x hx; rw [if_neg (by omega), if_neg (by omega), if_pos (by omega)]; exact hx
  · have := b4 x hx; rw [if_neg (by omega), if_neg (by omega), if_neg (by omega), if_pos (by omega)]; exact hx
  · have := b5 x hx; rw [if_neg (by omega), if_neg (by omega), if_neg (by omega), if_neg (by omega)]; exact hx
theorem rowAt_tab {x : Row} (hx : x ∈ tab) {r : Int} (h1 : x.fr ≤ r) (h2 : r ≤ x.to) : rowAt r = x := by
  obtain ⟨i, hi⟩ := List.getElem?_of_mem (part_in hx h1 h2)
  exact rowAt_in hi h1 h2
theorem rowAt_none {r : Int} (h : ∀ x ∈ tab, ¬(x.fr ≤ r ∧ r ≤ x.to)) : rowAt r = plainRow := rowAt_out fun _ x hx => h x (part_sub (List.mem_of_getElem? hx))
theorem rowAt_mem (r : Int) : rowAt r ∈ plainRow :: tab := by
  by_cases h : ∀ x ∈ tab, ¬(x.fr ≤ r ∧ r ≤ x.to)
  · rw [rowAt_none h]; exact List.mem_cons_self ..
  · simp only [Classical.not_forall, Classical.not_not] at h
    obtain ⟨x, hx, h1, h2⟩ := h
    rw [rowAt_tab hx h1 h2]; exact List.mem_cons_of_mem _ hx
theorem tab_le {x : Row} (h : x ∈ tab) : x.fr ≤ x.to := by
  obtain ⟨i, hi⟩ := List.getElem?_of_mem h
  cases hy : tab[i + 1]? with
  | some y => exact (rising_lt tab_rising (Nat.lt_succ_self i) hi hy).2.1
  | none =>
    have hl := (List.getElem?_eq_some_iff.1 hi).1
    have hl2 := List.getElem?_eq_none_iff.1 hy
    rw [tab_len] at hl hl2
    obtain ⟨y0, h0⟩ : ∃ y, tab[0]? = some y := ⟨_, List.getElem?_eq_getElem (i := 0) (by rw [tab_len]; omega)⟩
    exact (rising_lt tab_rising (show 0 < i by omega) h0 hi).2.2

def inR (r : Int) (x : Row) : Bool := decide (r ≥ x.fr) && decide (r ≤ x.to)
def inN (r : Int) (i : Nat) : Int := if (tab.take i).any (inR r) = true then 1 else 0
theorem inR_iff {r : Int} {x : Row} : inR r x = true ↔ x.fr ≤ r ∧ r ≤ x.to := by simp [inR]
theorem take_tab {i : Nat} {x : Row} (hx : tab[i]? = some x) : tab.take (i + 1) = tab.take i ++ [x] := by
  obtain ⟨hi, rfl⟩ := List.getElem?_eq_some_iff.1 hx
  exact List.take_succ_eq_append_getElem hi
theorem inN_in {r : Int} {i : Nat} {x : Row} (hx : tab[i]? = some x) (h : inR r x = true) : inN r i = 0 ∧ inN r (i + 1) = 1 := by
  have h0 : (tab.take i).any (inR r) = false := by
    rw [Bool.eq_false_iff]
    intro hh
    obtain ⟨y, hy, hyr⟩ := List.any_eq_true.1 hh
    obtain ⟨j, hj⟩ := List.getElem?_of_mem hy
    rw [List.getElem?_take] at hj
    split at hj
    · rename_i hlt
      have := rising_lt tab_rising hlt hj hx
      rw [inR_iff] at h hyr
      omega
    · cases hj
  unfold inN
  rw [take_tab hx, List.any_append, h0]
  simp [h]
theorem inN_out {r : Int} {i : Nat} {x : Row} (hx : tab[i]? = some x) (h : inR r x = false) : inN r (i + 1) = inN r i := by
  unfold inN
  rw [take_tab hx, List.any_append]
  simp [h]
theorem inN_cases (r : Int) (i : Nat) : inN r i = 0 ∨ inN r i = 1 := by unfold inN; split <;> simp
theorem inN_end {r : Int} (h : inN r 166 = 0) : rowAt r = plainRow := by
  refine rowAt_none fun x hx hr => ?_
  unfold inN at h
  rw [List.take_of_length_le (by rw [tab_len]; omega), if_pos (List.any_eq_true.2 ⟨x, hx, inR_iff.2 hr⟩)] at h
  cases h

set_option maxRecDepth 10000 in
theorem ucdRows_pure (n : Int) (hn : 0 ≤ n ∧ n ≤ 255) (at_ : Int) (ha : 0 ≤ at_ ∧ at_ ≤ 65535) (r : Int) (hr : -2147483648 ≤ r ∧ r ≤ 2147483647) : Pure Try.prog 10 [.lit (.int .u8 n), .lit (.int .u16 at_), .lit (.int .i32 r)] [] (.lit (.bool true)) := by
  refine pure0 Try.func10 c10 n10 e10 r10 (by simp) rfl ?_
  simp only [a10, astart, argSlots, go_sem, Nat.reduceAdd, Nat.reduceEqDiff, Nat.reduceLT, reduceIte, reduceCtorEq, Nat.reduceBEq, Int.reduceLT, Int.reduceToNat, Int.reducePow, Nat.reduceLeDiff, Int.reduceLE, Nat.reduceMul, Nat.reduceSub]
  refine callGo_pure table_pure rfl ?_
  have b0 : ((166 : Int) == 0) = false := rfl
  simp only [go_sem, Nat.reduceAdd, Nat.reduceEqDiff, Nat.reduceLT, reduceIte, reduceCtorEq, Nat.reduceBEq, Int.reduceLT, Int.reduceToNat, Int.reducePow, Nat.reduceLeDiff, Int.reduceLE, Nat.reduceMul, Nat.reduceSub, tabC_len, e166, b0]
  refine loop_to 166 (fun i => ⟨[(0, some (.lit (.int .u8 n))), (1, some (.lit (.int .u16 at_))), (2, some (.lit (.int .i32 r))), (7, some (.sl 48 (tab.map Row.cells) none)), (8, some (.lit (.int .i64 (inN r i)))), (16, some (.sl 48 (tab.map Row.cells) none)), (17, some (.lit (.int .i64 166))), (18, some (.lit (.int .i64 i)))], [], [], 0⟩) (fun i => i ≤ 166)
    ((weak_untip 7 (by simp only [go_sem, Nat.reduceAdd, Nat.reduceEqDiff, Nat.reduceLT, reduceIte, reduceCtorEq, Nat.reduceBEq, Int.reduceLT, Int.reduceToNat, Int.reducePow, Nat.reduceLeDiff, Int.reduceLE, Nat.reduceMul, Nat.reduceSub]; rfl)).trans ((weak_untip 16 (by simp only [go_sem, Nat.reduceAdd, Nat.reduceEqDiff, Nat.reduceLT, reduceIte, reduceCtorEq, Nat.reduceBEq, Int.reduceLT, Int.reduceToNat, Int.reducePow, Nat.reduceLeDiff, Int.reduceLE, Nat.reduceMul, Nat.reduceSub]; rfl)).trans (weak_by [] (by simp) rfl ?_ ?_ ?_ ?_))) (Nat.zero_le _) ?_ ?_
  · simp only [go_sem, Nat.reduceAdd, Nat.reduceEqDiff, Nat.reduceLT, reduceIte, reduceCtorEq, Nat.reduceBEq, Int.reduceLT, Int.reduceToNat, Int.reducePow, Nat.reduceLeDiff, Int.reduceLE, Nat.reduceMul, Nat.reduceSub, slotsBy, boxesBy, tipsBy, rawAt, nm, AV.ren, AV.renL, AV.under, AV.underL, List.all_nil, List.all_cons, bne_self_eq_false, List.getD_cons_zero, List.getD_cons_succ, List.length_nil, List.length_cons, and_true, true_and, Int.natCast_zero]; rfl
  · trivial
  · trivial
  · simp
  · intro i hi _
    obtain ⟨x, hx, hm, hg⟩ := tab_get hi
    have hd : decide ((i : Int) < 166) = true := by simp; omega
    have hw2 : IntKind.i64.wrap ((i : Int) + 1) = ((i + 1 : Nat) : Int) := by rw [wrap_i64 _ (by omega) (by omega)]; omega
    have hle := tab_le hm
    have b1 : decide (x.fr > x.to) = false := by simp only [decide_eq_false_iff_not]; omega
    simp only [hd, go_sem, Nat.reduceAdd, Nat.reduceEqDiff, Nat.reduceLT, reduceIte, reduceCtorEq, Nat.reduceBEq, Int.reduceLT, Int.reduceToNat, Int.reducePow, Nat.reduceLeDiff, Int.reduceLE, Nat.reduceMul, Nat.reduceSub, Int.natCast_nonneg, Int.toNat_natCast, hg, Row.cells, b1]
    refine gGo_splitT (fun h0 => ?_) (fun h0 => ?_)
    · simp only [decide_eq_true_eq] at h0
      obtain ⟨y, hy, _, hgy⟩ := tab_get (show i - 1 < 166 by omega)
      have hlt := (rising_lt tab_rising (show i - 1 < i by omega) hy hx).1
      have hw1 : IntKind.i64.wrap ((i : Int) - 1) = ((i - 1 : Nat) : Int) := by rw [wrap_i64 _ (by omega) (by omega)]; omega
      have b2 : decide (y.to ≥ x.fr) = false := by simp only [decide_eq_false_iff_not]; omega
      have b3 : decide ((i : Int) > 0) = true := by simp only [decide_eq_true_eq]; omega
      simp only [b3, hw1, go_sem, Nat.reduceAdd, Nat.reduceEqDiff, Nat.reduceLT, reduceIte, reduceCtorEq, Nat.reduceBEq, Int.reduceLT, Int.reduceToNat, Int.reducePow, Nat.reduceLeDiff, Int.reduceLE, Nat.reduceMul, Nat.reduceSub, Int.natCast_nonneg, Int.toNat_natCast, hgy, Row.cells, b2]
      refine gGo_splitT (fun h1 => ?_) (fun h1 => ?_)
      · simp only [h1, go_sem, Nat.reduceAdd, Nat.reduceEqDiff, Nat.reduceLT, reduceIte, reduceCtorEq, Nat.reduceBEq, Int.reduceLT, Int.reduceToNat, Int.reducePow, Nat.reduceLeDiff, Int.reduceLE, Nat.reduceMul, Nat.reduceSub]
        refine cGo_split (fun h2 => ?_) (fun h2 => ?_)
        · have hin : inR r x = true := by simp only [inR, h1, h2, Bool.and_self]
          obtain ⟨q1, q2⟩ := inN_in hx hin
          have hrow := rowAt_tab hm (inR_iff.1 hin).1 (inR_iff.1 hin).2
          have hw3 : IntKind.i64.wrap (0 + 1) = 1 := rfl
          simp only [q1, hw3, go_sem, Nat.reduceAdd, Nat.reduceEqDiff, Nat.reduceLT, reduceIte, reduceCtorEq, Nat.reduceBEq, Int.reduceLT, Int.reduceToNat, Int.reducePow, Nat.reduceLeDiff, Int.reduceLE, Nat.reduceMul, Nat.reduceSub]
          refine dcallGo_pure (of_pure r) (by rfl) rfl ?_
          simp only [hrow, Row.prop, beq_self_eq_true, hw2, go_sem, Nat.reduceAdd, Nat.reduceEqDiff, Nat.reduceLT, reduceIte, reduceCtorEq, Nat.reduceBEq, Int.reduceLT, Int.reduceToNat, Int.reducePow, Nat.reduceLeDiff, Int.reduceLE, Nat.reduceMul, Nat.reduceSub]
          refine ⟨weak_by [] (by simp) rfl ?_ ?_ ?_ ?_, by omega⟩
          · simp only [go_sem, Nat.reduceAdd, Nat.reduceEqDiff, Nat.reduceLT, reduceIte, reduceCtorEq, Nat.reduceBEq, Int.reduceLT, Int.reduceToNat, Int.reducePow, Nat.reduceLeDiff, Int.reduceLE, Nat.reduceMul, Nat.reduceSub, slotsBy, boxesBy, tipsBy, rawAt, nm, AV.ren, AV.renL, AV.under, AV.underL, List.all_nil, List.all_cons, bne_self_eq_false, List.getD_cons_zero, List.getD_cons_succ, List.length_nil, List.length_cons, and_true, true_and, q2]
          · trivial
          · trivial
          · simp
        · have hin : inR r x = false := by simp only [inR, h1, h2, Bool.and_false]
          have q2 := inN_out hx hin
          simp only [hw2, go_sem, Nat.reduceAdd, Nat.reduceEqDiff, Nat.reduceLT, reduceIte, reduceCtorEq, Nat.reduceBEq, Int.reduceLT, Int.reduceToNat, Int.reducePow, Nat.reduceLeDiff, Int.reduceLE, Nat.reduceMul, Nat.reduceSub]
          refine ⟨weak_by [] (by simp) rfl ?_ ?_ ?_ ?_, by omega⟩
          · simp only [go_sem, Nat.reduceAdd, Nat.reduceEqDiff, Nat.reduceLT, reduceIte, reduceCtorEq, Nat.reduceBEq, Int.reduceLT, Int.reduceToNat, Int.reducePow, Nat.reduceLeDiff, Int.reduceLE, Nat.reduceMul, Nat.reduceSub, slotsBy, boxesBy, tipsBy, rawAt, nm, AV.ren, AV.renL, AV.under, AV.underL, List.all_nil, List.all_cons, bne_self_eq_false, List.getD_cons_zero, List.getD_cons_succ, List.length_nil, List.length_cons, and_true, true_and, q2]
          · trivial
          · trivial
          · simp
      · have hin : inR r x = false := by simp only [inR, h1, Bool.false_and]
        have q2 := inN_out hx hin
        simp only [h1, hw2, go_sem, Nat.reduceAdd, Nat.reduceEqDiff, Nat.reduceLT, reduceIte, reduceCtorEq, Nat.reduceBEq, Int.reduceLT, Int.reduceToNat, Int.reducePow, Nat.reduceLeDiff, Int.reduceLE, Nat.reduceMul, Nat.reduceSub]
        refine ⟨weak_by [] (by simp) rfl ?_ ?_ ?_ ?_, by omega⟩
        · simp only [go_sem, Nat.reduceAdd, Nat.reduceEqDiff, Nat.reduceLT, reduceIte, reduceCtorEq, Nat.reduceBEq, Int.reduceLT, Int.reduceToNat, Int.reducePow, Nat.reduceLeDiff, Int.reduceLE, Nat.reduceMul, Nat.reduceSub, slotsBy, boxesBy, tipsBy, rawAt, nm, AV.ren, AV.renL, AV.under, AV.underL, List.all_nil, List.all_cons, bne_self_eq_false, List.getD_cons_zero, List.getD_cons_succ, List.length_nil, List.length_cons, and_true, true_and, q2]
        · trivial
        · trivial
        · simp
    · simp only [h0, go_sem, Nat.reduceAdd, Nat.reduceEqDiff, Nat.reduceLT, reduceIte, reduceCtorEq, Nat.reduceBEq, Int.reduceLT, Int.reduceToNat, Int.reducePow, Nat.reduceLeDiff, Int.reduceLE, Nat.reduceMul, Nat.reduceSub]
      refine gGo_splitT (fun h1 => ?_) (fun h1 => ?_)
      · simp only [h1, go_sem, Nat.reduceAdd, Nat.reduceEqDiff, Nat.reduceLT, reduceIte, reduceCtorEq, Nat.reduceBEq, Int.reduceLT, Int.reduceToNat, Int.reducePow, Nat.reduceLeDiff, Int.reduceLE, Nat.reduceMul, Nat.reduceSub]
        refine cGo_split (fun h2 => ?_) (fun h2 => ?_)
        · have hin : inR r x = true := by simp only [inR, h1, h2, Bool.and_self]
          obtain ⟨q1, q2⟩ := inN_in hx hin
          have hrow := rowAt_tab hm (inR_iff.1 hin).1 (inR_iff.1 hin).2
          have hw3 : IntKind.i64.wrap (0 + 1) = 1 := rfl
          simp only [q1, hw3, go_sem, Nat.reduceAdd, Nat.reduceEqDiff, Nat.reduceLT, reduceIte, reduceCtorEq, Nat.reduceBEq, Int.reduceLT, Int.reduceToNat, Int.reducePow, Nat.reduceLeDiff, Int.reduceLE, Nat.reduceMul, Nat.reduceSub]
          refine dcallGo_pure (of_pure r) (by rfl) rfl ?_
          simp only [hrow, Row.prop, beq_self_eq_true, hw2, go_sem, Nat.reduceAdd, Nat.reduceEqDiff, Nat.reduceLT, reduceIte, reduceCtorEq, Nat.reduceBEq, Int.reduceLT, Int.reduceToNat, Int.reducePow, Nat.reduceLeDiff, Int.reduceLE, Nat.reduceMul, Nat.reduceSub]
          refine ⟨weak_by [] (by simp) rfl ?_ ?_ ?_ ?_, by omega⟩
          · simp only [go_sem, Nat.reduceAdd, Nat.reduceEqDiff, Nat.reduceLT, reduceIte, reduceCtorEq, Nat.reduceBEq, Int.reduceLT, Int.reduceToNat, Int.reducePow, Nat.reduceLeDiff, Int.reduceLE, Nat.reduceMul, Nat.reduceSub, slotsBy, boxesBy, tipsBy, rawAt, nm, AV.ren, AV.renL, AV.under, AV.underL, List.all_nil, List.all_cons, bne_self_eq_false, List.getD_cons_zero, List.getD_cons_succ, List.length_nil, List.length_cons, and_true, true_and, q2]
          · trivial
          · trivial
          · simp
        · have hin : inR r x = false := by simp only [inR, h1, h2, Bool.and_false]
          have q2 := inN_out hx hin
          simp only [hw2, go_sem, Nat.reduceAdd, Nat.reduceEqDiff, Nat.reduceLT, reduceIte, reduceCtorEq, Nat.reduceBEq, Int.reduceLT, Int.reduceToNat, Int.reducePow, Nat.reduceLeDiff, Int.reduceLE, Nat.reduceMul, Nat.reduceSub]
          refine ⟨weak_by [] (by simp) rfl ?_ ?_ ?_ ?_, by omega⟩
          · simp only [go_sem, Nat.reduceAdd, Nat.reduceEqDiff, Nat.reduceLT, reduceIte, reduceCtorEq, Nat.reduceBEq, Int.reduceLT, Int.reduceToNat, Int.reducePow, Nat.reduceLeDiff, Int.reduceLE, Nat.reduceMul, Nat.reduceSub, slotsBy, boxesBy, tipsBy, rawAt, nm, AV.ren, AV.renL, AV.under, AV.underL, List.all_nil, List.all_cons, bne_self_eq_false, List.getD_cons_zero, List.getD_cons_succ, List.length_nil, List.length_cons, and_true, true_and, q2]
          · trivial
          · trivial
          · simp
      · have hin : inR r x = false := by simp only [inR, h1, Bool.false_and]
        have q2 := inN_out hx hin
        simp only [h1, hw2, go_sem, Nat.reduceAdd, Nat.reduceEqDiff, Nat.reduceLT, reduceIte, reduceCtorEq, Nat.reduceBEq, Int.reduceLT, Int.reduceToNat, Int.reducePow, Nat.reduceLeDiff, Int.reduceLE, Nat.reduceMul, Nat.reduceSub]
        refine ⟨weak_by [] (by simp) rfl ?_ ?_ ?_ ?_, by omega⟩
        · simp only [go_sem, Nat.reduceAdd, Nat.reduceEqDiff, Nat.reduceLT, reduceIte, reduceCtorEq, Nat.reduceBEq, Int.reduceLT, Int.reduceToNat, Int.reducePow, Nat.reduceLeDiff, Int.reduceLE, Nat.reduceMul, Nat.reduceSub, slotsBy, boxesBy, tipsBy, rawAt, nm, AV.ren, AV.renL, AV.under, AV.underL, List.all_nil, List.all_cons, bne_self_eq_false, List.getD_cons_zero, List.getD_cons_succ, List.length_nil, List.length_cons, and_true, true_and, q2]
        · trivial
        · trivial
        · simp
  · intro _
    have hd : decide (((166 : Nat) : Int) < 166) = false := rfl
    obtain ⟨k, hk, hkt⟩ := tmod_166 hn.1
    obtain ⟨x, hx, hm, hg⟩ := tab_get hk
    have hxr := tab_range hm
    have hle := tab_le hm
    have hwn : IntKind.i64.wrap n = n := wrap_i64 _ (by omega) (by omega)
    have hwa : IntKind.i64.wrap at_ = at_ := wrap_i64 _ (by omega) (by omega)
    have h1 : IntKind.i32.wrap (x.to - x.fr) = x.to - x.fr := wrap_i32 _ (by omega) (by omega)
    have h2 : IntKind.i32.wrap (x.to - x.fr + 1) = x.to - x.fr + 1 := wrap_i32 _ (by omega) (by omega)
    have h3 : IntKind.i64.wrap (x.to - x.fr + 1) = x.to - x.fr + 1 := wrap_i64 _ (by omega) (by omega)
    have hne : (x.to - x.fr + 1 = 0) = False := by simp only [eq_iff_iff, iff_false]; omega
    have hm1 : 0 ≤ at_.tmod (x.to - x.fr + 1) ∧ at_.tmod (x.to - x.fr + 1) < x.to - x.fr + 1 := by
      rw [Int.tmod_eq_emod_of_nonneg ha.1]
      exact ⟨Int.emod_nonneg _ (by omega), Int.emod_lt_of_pos _ (by omega)⟩
    generalize hq : at_.tmod (x.to - x.fr + 1) = q at hm1
    have h4 : IntKind.i32.wrap q = q := wrap_i32 _ (by omega) (by omega)
    have h5 : IntKind.i32.wrap (x.fr + q) = x.fr + q := wrap_i32 _ (by omega) (by omega)
    simp only [hd, e166, tabC_len, hwn, ne166, hkt, hg, Row.cells, hwa, h1, h2, h3, hne, hq, h4, h5, Int.natCast_nonneg, Int.toNat_natCast, go_sem, Nat.reduceAdd, Nat.reduceEqDiff, Nat.reduceLT, reduceIte, reduceCtorEq, Nat.reduceBEq, Int.reduceLT, Int.reduceToNat, Int.reducePow, Nat.reduceLeDiff, Int.reduceLE, Nat.reduceMul, Nat.reduceSub]
    refine dcallGo_pure (of_pure (x.fr + q)) (by rfl) rfl ?_
    have hrow : rowAt (x.fr + q) = x := rowAt_tab hm (by omega) (by omega)
    simp only [hrow, Row.prop, beq_self_eq_true, go_sem, Nat.reduceAdd, Nat.reduceEqDiff, Nat.reduceLT, reduceIte, reduceCtorEq, Nat.reduceBEq, Int.reduceLT, Int.reduceToNat, Int.reducePow, Nat.reduceLeDiff, Int.reduceLE, Nat.reduceMul, Nat.reduceSub]
    rcases inN_cases r 166 with h0 | h0
    · have d1 : decide ((0 : Int) ≤ 1) = true := rfl
      have d2 : ((0 : Int) == 1) = false := rfl
      simp only [h0, d1, d2, go_sem, Nat.reduceAdd, Nat.reduceEqDiff, Nat.reduceLT, reduceIte, reduceCtorEq, Nat.reduceBEq, Int.reduceLT, Int.reduceToNat, Int.reducePow, Nat.reduceLeDiff, Int.reduceLE, Nat.reduceMul, Nat.reduceSub]
      refine callGo_pure (of_pure r) (by rfl) ?_
      simp only [inN_end h0, Row.prop, plainRow, beq_self_eq_true, go_sem, Nat.reduceAdd, Nat.reduceEqDiff, Nat.reduceLT, reduceIte, reduceCtorEq, Nat.reduceBEq, Int.reduceLT, Int.reduceToNat, Int.reducePow, Nat.reduceLeDiff, Int.reduceLE, Nat.reduceMul, Nat.reduceSub]
      refine callGo_pure awake02_pure (by rfl) ?_
      simp only [go_sem, Nat.reduceAdd, Nat.reduceEqDiff, Nat.reduceLT, reduceIte, reduceCtorEq, Nat.reduceBEq, Int.reduceLT, Int.reduceToNat, Int.reducePow, Nat.reduceLeDiff, Int.reduceLE, Nat.reduceMul, Nat.reduceSub]
      simp only [Done, resAV, resL, resOne, look_nil, look_cons, Nat.reduceEqDiff, if_true, if_false, reduceIte, ite_true, ite_false, Nat.zero_ne_one, Nat.one_ne_zero, reduceCtorEq, true_or, or_true, true_and, Option.some.injEq, AV.lit.injEq, Value.int.injEq, Value.bool.injEq]
    · have d1 : decide ((1 : Int) ≤ 1) = true := rfl
      have d2 : ((1 : Int) == 1) = true := rfl
      simp only [h0, d1, d2, go_sem, Nat.reduceAdd, Nat.reduceEqDiff, Nat.reduceLT, reduceIte, reduceCtorEq, Nat.reduceBEq, Int.reduceLT, Int.reduceToNat, Int.reducePow, Nat.reduceLeDiff, Int.reduceLE, Nat.reduceMul, Nat.reduceSub]
      refine callGo_pure awake02_pure (by rfl) ?_
      simp only [go_sem, Nat.reduceAdd, Nat.reduceEqDiff, Nat.reduceLT, reduceIte, reduceCtorEq, Nat.reduceBEq, Int.reduceLT, Int.reduceToNat, Int.reducePow, Nat.reduceLeDiff, Int.reduceLE, Nat.reduceMul, Nat.reduceSub]
      simp only [Done, resAV, resL, resOne, look_nil, look_cons, Nat.reduceEqDiff, if_true, if_false, reduceIte, ite_true, ite_false, Nat.zero_ne_one, Nat.one_ne_zero, reduceCtorEq, true_or, or_true, true_and, Option.some.injEq, AV.lit.injEq, Value.int.injEq, Value.bool.injEq]

theorem ucdRows_any (avs : List AV) (h : Args Try.prog Try.f10.params.toList avs) : Pure Try.prog 10 avs [] (.lit (.bool true)) := by
  have hp : Try.f10.params.toList = [5, 23, 21] := by kernel_rfl
  rw [hp] at h
  obtain ⟨av0, rest0, rfl, a0, h0⟩ := h
  obtain ⟨av1, rest1, rfl, a1, h1⟩ := h0
  obtain ⟨av2, rest2, rfl, a2, rfl⟩ := h1
  obtain ⟨z0, rfl, w0⟩ := arg_int (k := .u8) (by kernel_rfl) a0
  obtain ⟨z1, rfl, w1⟩ := arg_int (k := .u16) (by kernel_rfl) a1
  obtain ⟨z2, rfl, w2⟩ := arg_int (k := .i32) (by kernel_rfl) a2
  exact ucdRows_pure z0 (by simpa [Lit.wf, IntKind.min, IntKind.max, IntKind.signed, IntKind.bits] using w0) z1 (by simpa [Lit.wf, IntKind.min, IntKind.max, IntKind.signed, IntKind.bits] using w1) z2 (by simpa [Lit.wf, IntKind.min, IntKind.max, IntKind.signed, IntKind.bits] using w2)

set_option maxRecDepth 100000 in
theorem ucdRows_lifted (os : Os) (started : os.Started) (H : Type) (enc : TypeId × Value → H) :
    ReturnsInHanded {} Try.checked os 10 .any (Rows.ucdRowsSpec.pre6 enc Try.prog Try.f10 Rows.ucdRowsRow.domain false) (Rows.ucdRowsSpec.post enc Try.prog Try.f10 false true false false) := by
  refine law_returns (C := Try.checked) (tb := 4) (by kernel_rfl) started (by kernel_rfl) Try.func10
    (ChangeSpec.witness6 (enc := enc) (C := Try.checked) false ⟨#[], #[.int .u8 0, .int .u16 0, .int .i32 0], []⟩ 8 (by kernel_rfl) (by kernel_rfl) (by kernel_rfl) (by kernel_rfl))
    (by kernel_rfl) (by kernel_rfl) rfl rfl (by kernel_rfl) (by kernel_rfl) ?_ ucdRows_any
  intro ds hds
  have hp : Try.f10.params.toList = [5, 23, 21] := by kernel_rfl
  rw [hp] at hds
  match ds, hds with
  | [d0, d1, d2], _ => exact ⟨rfl, rfl, rfl⟩

theorem ucdRows_holds : Rows.UcdRowsSaid :=
  OpenClaim.holds_of_wide 10 Try.f10 rfl rfl rfl rfl rfl rfl rfl ⟨rfl, rfl, rfl, rfl, rfl⟩ rfl rfl rfl rfl rfl (by kernel_rfl) Try.func10 (by kernel_rfl)
    (of_decide_eq_true (by kernel_rfl)) (by unfold Func.isWrapper; first | (rw [if_pos (by decide +kernel)]; kernel_rfl) | (rw [if_neg (by decide +kernel)]; exact ⟨rfl, rfl⟩))
    (fun os started H enc _ => ucdRows_lifted os started H enc)
end Go.Proofs.Ytbnaepdeakcljaa
