/-
What the document's own answer knows of a code point. Conditions: none.
-/
import Derived.Test.YtmhpjoadfgplgaaUcd3
set_option linter.unusedSimpArgs false
set_option linter.unusedVariables false
set_option linter.unusedSectionVars false
namespace Go.Proofs.Ytmhpjoadfgplgaa
open Go Go.Ab
def a100 : ACode :=
  (.seq (.reg [⟨(.some 2), (.mv (.k (.slice .none 0 0))), .none⟩]) (.seq (.seq (.reg [⟨(.some 3), (.mv (.t 0)), .none⟩, ⟨(.some 4), (.bin .lss (.t 3) (.k (.int .i32 127))), .none⟩]) (.cond (.t 4) (.seq
  (.reg [⟨(.some 5), (.call (.f 106) []), .none⟩, ⟨(.some 2), (.mv (.t 5)), .none⟩]) .ret) .skip)) (.seq (.seq (.reg [⟨(.some 6), (.mv (.t 0)), .none⟩, ⟨(.some 7), (.bin .lss (.t 6) (.k (.int .i32
  1030))), .none⟩]) (.cond (.t 7) (.seq (.reg [⟨(.some 8), (.call (.f 107) []), .none⟩, ⟨(.some 2), (.mv (.t 8)), .none⟩]) .ret) .skip)) (.seq (.seq (.reg [⟨(.some 9), (.mv (.t 0)), .none⟩, ⟨(.some 10),
  (.bin .lss (.t 9) (.k (.int .i32 1617))), .none⟩]) (.cond (.t 10) (.seq (.reg [⟨(.some 11), (.call (.f 108) []), .none⟩, ⟨(.some 2), (.mv (.t 11)), .none⟩]) .ret) .skip)) (.seq (.seq (.reg [⟨(.some
  12), (.mv (.t 0)), .none⟩, ⟨(.some 13), (.bin .lss (.t 12) (.k (.int .i32 8238))), .none⟩]) (.cond (.t 13) (.seq (.reg [⟨(.some 14), (.call (.f 109) []), .none⟩, ⟨(.some 2), (.mv (.t 14)), .none⟩])
  .ret) .skip)) (.seq (.reg [⟨(.some 15), (.call (.f 110) []), .none⟩, ⟨(.some 2), (.mv (.t 15)), .none⟩]) .ret))))))
theorem c100 : Try.f100.body.bind (cCode Try.prog 16) = some a100 := by kernel_rfl
theorem r100 : Try.f100.results.toList = [(.tmp 2)] := by kernel_rfl
theorem n100 : Try.f100.ntmps = 16 := by kernel_rfl
theorem e100 : Enters Try.prog 100 := enters_of Try.func100 (by kernel_rfl) (by kernel_rfl)
def a101 : ACode :=
  (.seq (.reg [⟨(.some 1), (.box 133 (.t 0)), .none⟩, ⟨(.some 2), (.alc 43 [(.int .u8 0), (.int .u8 0), (.int .u8 0), (.int .u8 0), (.int .u8 0), (.int .u8 0), (.int .u8 0)]), .none⟩]) (.seq (.reg
  [⟨(.some 3), (.iaA 9 1 (.t 1) (.k (.int .i64 2))), .none⟩, ⟨(.some 4), (.ld .none (.t 3)), .none⟩, ⟨(.some 5), (.cvI .u8 (.t 4)), .none⟩, ⟨(.some 6), (.iaA 9 1 (.t 1) (.k (.int .i64 3))), .none⟩,
  ⟨(.some 7), (.ld .none (.t 6)), .none⟩, ⟨(.some 8), (.cvI .u8 (.t 7)), .none⟩, ⟨(.some 9), (.iaA 9 1 (.t 1) (.k (.int .i64 4))), .none⟩, ⟨(.some 10), (.ld .none (.t 9)), .none⟩, ⟨(.some 11), (.cvI .u8
  (.t 10)), .none⟩, ⟨(.some 12), (.iaA 9 1 (.t 1) (.k (.int .i64 5))), .none⟩, ⟨(.some 13), (.ld .none (.t 12)), .none⟩, ⟨(.some 14), (.cvI .u8 (.t 13)), .none⟩, ⟨(.some 15), (.iaA 9 1 (.t 1) (.k (.int
  .i64 6))), .none⟩, ⟨(.some 16), (.ld .none (.t 15)), .none⟩, ⟨(.some 17), (.cvI .u8 (.t 16)), .none⟩, ⟨(.some 18), (.iaA 9 1 (.t 1) (.k (.int .i64 7))), .none⟩, ⟨(.some 19), (.ld .none (.t 18)),
  .none⟩, ⟨(.some 20), (.cvI .u8 (.t 19)), .none⟩, ⟨(.some 21), (.iaA 9 1 (.t 1) (.k (.int .i64 8))), .none⟩, ⟨(.some 22), (.ld .none (.t 21)), .none⟩, ⟨(.some 23), (.cvI .u8 (.t 22)), .none⟩, ⟨(.some
  24), (.bd [(.int .u8 0), (.int .u8 0), (.int .u8 0), (.int .u8 0), (.int .u8 0), (.int .u8 0), (.int .u8 0)] [(0, (1, (.t 5))), (1, (1, (.t 8))), (2, (1, (.t 11))), (3, (1, (.t 14))), (4, (1, (.t
  17))), (5, (1, (.t 20))), (6, (1, (.t 23)))]), .none⟩, ⟨.none, (.st 7 (.t 2) (.t 24)), .none⟩]) .ret))
theorem c101 : Try.f101.body.bind (cCode Try.prog 25) = some a101 := by kernel_rfl
theorem r101 : Try.f101.results.toList = [(.cell 2 43)] := by kernel_rfl
theorem n101 : Try.f101.ntmps = 25 := by kernel_rfl
theorem e101 : Enters Try.prog 101 := enters_of Try.func101 (by kernel_rfl) (by kernel_rfl)
def a94 : ACode :=
  (.seq (.reg [⟨(.some 2), (.alc 43 [(.int .u8 0), (.int .u8 0), (.int .u8 0), (.int .u8 0), (.int .u8 0), (.int .u8 0), (.int .u8 0)]), .none⟩]) (.seq (.reg [⟨(.some 5), (.mv (.t 0)), .none⟩, ⟨(.some
  6), (.call (.f 100) [(.t 5)]), .none⟩, ⟨(.some 3), (.mv (.t 6)), .none⟩]) (.seq (.seq (.reg [⟨(.some 4), (.mv (.k (.int .i64 0))), .none⟩]) (.block 0 (.loop (.seq (.seq (.reg [⟨(.some 7), (.mv (.t
  4)), .none⟩, ⟨(.some 8), (.mv (.t 3)), .none⟩, ⟨(.some 9), (.len (.t 8)), .none⟩, ⟨(.some 10), (.bin .lss (.t 7) (.t 9)), .none⟩]) (.cond (.t 10) .skip (.exit 0))) (.seq (.block 1 (.seq (.reg [⟨(.some
  13), (.mv (.t 0)), .none⟩, ⟨(.some 14), (.cvI .i64 (.t 13)), .none⟩, ⟨(.some 15), (.mv (.t 3)), .none⟩, ⟨(.some 16), (.mv (.t 4)), .none⟩, ⟨(.some 17), (.ia 133 (.t 15) (.t 16)), .none⟩, ⟨(.some 18),
  (.iaA 9 1 (.t 17) (.k (.int .i64 0))), .none⟩, ⟨(.some 19), (.ld .none (.t 18)), .none⟩, ⟨(.some 20), (.bin .geq (.t 14) (.t 19)), .none⟩, ⟨(.some 21), (.mv (.t 20)), .none⟩, ⟨(.some 22), (.mv (.t
  0)), (.some (21, true))⟩, ⟨(.some 23), (.cvI .i64 (.t 22)), (.some (21, true))⟩, ⟨(.some 24), (.mv (.t 3)), (.some (21, true))⟩, ⟨(.some 25), (.mv (.t 4)), (.some (21, true))⟩, ⟨(.some 26), (.ia 133
  (.t 24) (.t 25)), (.some (21, true))⟩, ⟨(.some 27), (.iaA 9 1 (.t 26) (.k (.int .i64 1))), (.some (21, true))⟩, ⟨(.some 28), (.ld .none (.t 27)), (.some (21, true))⟩, ⟨(.some 29), (.bin .leq (.t 23)
  (.t 28)), (.some (21, true))⟩, ⟨(.some 30), (.pick (.t 21) (.t 29) (.k (.bool false))), .none⟩]) (.cond (.t 30) (.seq (.reg [⟨(.some 31), (.mv (.t 3)), .none⟩, ⟨(.some 32), (.mv (.t 4)), .none⟩,
  ⟨(.some 33), (.ia 133 (.t 31) (.t 32)), .none⟩, ⟨(.some 34), (.ld (.some 9) (.t 33)), .none⟩, ⟨(.some 35), (.call (.f 101) [(.t 34)]), .none⟩, ⟨.none, (.st 7 (.t 2) (.t 35)), .none⟩]) .ret) .skip)))
  (.reg [⟨(.some 11), (.mv (.t 4)), .none⟩, ⟨(.some 12), (.bin .add (.t 11) (.k (.int .i64 1))), .none⟩, ⟨(.some 4), (.mv (.t 12)), .none⟩])))))) (.seq (.reg [⟨(.some 36), (.bd [(.int .u8 0), (.int .u8
  0), (.int .u8 0), (.int .u8 0), (.int .u8 0), (.int .u8 0), (.int .u8 0)] [(6, (1, (.k (.int .u8 1))))]), .none⟩, ⟨.none, (.st 7 (.t 2) (.t 36)), .none⟩]) .ret))))
theorem c94 : Try.f94.body.bind (cCode Try.prog 37) = some a94 := by kernel_rfl
theorem r94 : Try.f94.results.toList = [(.cell 2 43)] := by kernel_rfl
theorem n94 : Try.f94.ntmps = 37 := by kernel_rfl
theorem e94 : Enters Try.prog 94 := enters_of Try.func94 (by kernel_rfl) (by kernel_rfl)

theorem rowAt_in {r : Int} {i : Nat} {x : Row} (hx : (partOf r)[i]? = some x) (h1 : x.fr ≤ r) (h2 : r ≤ x.to) : rowAt r = x := by
  have hle : place r ≤ i := Nat.le_of_not_lt fun h => by
    have := place_lt h hx
    simp only [decide_eq_false_iff_not] at this
    exact this h2
  have hlt : i < (partOf r).length := (List.getElem?_eq_some_iff.1 hx).1
  have hy := List.getElem?_eq_getElem (Nat.lt_of_le_of_lt hle hlt)
  rcases Nat.lt_or_eq_of_le hle with h | h
  · have h3 := place_ge (Nat.le_refl _) hy
    have h4 := rising_lt (partOf_rising r) h hy hx
    simp only [decide_eq_true_eq] at h3
    omega
  · subst h
    simp only [rowAt, hx]
    rw [if_neg (by omega)]

theorem rowAt_out {r : Int} (h : ∀ (i : Nat) (x : Row), (partOf r)[i]? = some x → ¬(x.fr ≤ r ∧ r ≤ x.to)) : rowAt r = ⟨0, 0, 0, 0, 0, 0, 0, 0, 1⟩ := by
  unfold rowAt
  split
  · rename_i x hx
    have h3 := place_ge (Nat.le_refl _) hx
    simp only [decide_eq_true_eq] at h3
    rw [if_pos]
    have := h _ x hx
    omega
  · rfl

def plainZero : List AV := [.lit (.int .u8 0), .lit (.int .u8 0), .lit (.int .u8 0), .lit (.int .u8 0), .lit (.int .u8 0), .lit (.int .u8 0), .lit (.int .u8 0)]
theorem nums_get (l : List Row) (i : Nat) : (l.map Row.nums)[i]? = (l[i]?).map Row.nums := by simp

set_option maxRecDepth 10000 in
theorem rows_pure (r : Int) : Pure Try.prog 100 [.lit (.int .i32 r)] [133] (.sl 133 ((partOf r).map Row.nums) (some 0)) := by
  refine pure1 Try.func100 c100 n100 e100 r100 (by simp) ?_
  simp only [a100, astart, argSlots, go_sem, Nat.reduceAdd, Nat.reduceEqDiff, Nat.reduceLT, reduceIte, reduceCtorEq, Nat.reduceBEq, Int.reduceLT, Int.reduceToNat, Int.reducePow, Nat.reduceLeDiff, Int.reduceLE, Nat.reduceMul, Nat.reduceSub]
  refine cGo_split (fun h1 => ?_) (fun h1 => ?_) <;> simp only [decide_eq_true_eq, decide_eq_false_iff_not] at h1
  · simp only [go_sem, Nat.reduceAdd, Nat.reduceEqDiff, Nat.reduceLT, reduceIte, reduceCtorEq, Nat.reduceBEq, Int.reduceLT, Int.reduceToNat, Int.reducePow, Nat.reduceLeDiff, Int.reduceLE, Nat.reduceMul, Nat.reduceSub, partOf, h1]
    refine callGo_pure rows1_pure rfl ?_
    simp only [go_sem, Nat.reduceAdd, Nat.reduceEqDiff, Nat.reduceLT, reduceIte, reduceCtorEq, Nat.reduceBEq, Int.reduceLT, Int.reduceToNat, Int.reducePow, Nat.reduceLeDiff, Int.reduceLE, Nat.reduceMul, Nat.reduceSub, rf1_eq]
    exact ⟨.inr rfl, 0, by simp only [resAV, resL, resOne, go_sem, Nat.reduceAdd, Nat.reduceEqDiff, Nat.reduceLT, reduceIte, reduceCtorEq, Nat.reduceBEq, Int.reduceLT, Int.reduceToNat, Int.reducePow, Nat.reduceLeDiff, Int.reduceLE, Nat.reduceMul, Nat.reduceSub], by simp [go_sem, Nat.reduceAdd, Nat.reduceEqDiff, Nat.reduceLT, reduceIte, reduceCtorEq, Nat.reduceBEq, Int.reduceLT, Int.reduceToNat, Int.reducePow, Nat.reduceLeDiff, Int.reduceLE, Nat.reduceMul, Nat.reduceSub]⟩
  · simp only [go_sem, Nat.reduceAdd, Nat.reduceEqDiff, Nat.reduceLT, reduceIte, reduceCtorEq, Nat.reduceBEq, Int.reduceLT, Int.reduceToNat, Int.reducePow, Nat.reduceLeDiff, Int.reduceLE, Nat.reduceMul, Nat.reduceSub]
    refine cGo_split (fun h2 => ?_) (fun h2 => ?_) <;> simp only [decide_eq_true_eq, decide_eq_false_iff_not] at h2
    · simp only [go_sem, Nat.reduceAdd, Nat.reduceEqDiff, Nat.reduceLT, reduceIte, reduceCtorEq, Nat.reduceBEq, Int.reduceLT, Int.reduceToNat, Int.reducePow, Nat.reduceLeDiff, Int.reduceLE, Nat.reduceMul, Nat.reduceSub, partOf, h1, h2]
      refine callGo_pure rows2_pure rfl ?_
      simp only [go_sem, Nat.reduceAdd, Nat.reduceEqDiff, Nat.reduceLT, reduceIte, reduceCtorEq, Nat.reduceBEq, Int.reduceLT, Int.reduceToNat, Int.reducePow, Nat.reduceLeDiff, Int.reduceLE, Nat.reduceMul, Nat.reduceSub, rf2_eq]
      exact ⟨.inr rfl, 0, by simp only [resAV, resL, resOne, go_sem, Nat.reduceAdd, Nat.reduceEqDiff, Nat.reduceLT, reduceIte, reduceCtorEq, Nat.reduceBEq, Int.reduceLT, Int.reduceToNat, Int.reducePow, Nat.reduceLeDiff, Int.reduceLE, Nat.reduceMul, Nat.reduceSub], by simp [go_sem, Nat.reduceAdd, Nat.reduceEqDiff, Nat.reduceLT, reduceIte, reduceCtorEq, Nat.reduceBEq, Int.reduceLT, Int.reduceToNat, Int.reducePow, Nat.reduceLeDiff, Int.reduceLE, Nat.reduceMul, Nat.reduceSub]⟩
    · simp only [go_sem, Nat.reduceAdd, Nat.reduceEqDiff, Nat.reduceLT, reduceIte, reduceCtorEq, Nat.reduceBEq, Int.reduceLT, Int.reduceToNat, Int.reducePow, Nat.reduceLeDiff, Int.reduceLE, Nat.reduceMul, Nat.reduceSub]
      refine cGo_split (fun h3 => ?_) (fun h3 => ?_) <;> simp only [decide_eq_true_eq, decide_eq_false_iff_not] at h3
      · simp only [go_sem, Nat.reduceAdd, Nat.reduceEqDiff, Nat.reduceLT, reduceIte, reduceCtorEq, Nat.reduceBEq, Int.reduceLT, Int.reduceToNat, Int.reducePow, Nat.reduceLeDiff, Int.reduceLE, Nat.reduceMul, Nat.reduceSub, partOf, h1, h2, h3]
        refine callGo_pure rows3_pure rfl ?_
        simp only [go_sem, Nat.reduceAdd, Nat.reduceEqDiff, Nat.reduceLT, reduceIte, reduceCtorEq, Nat.reduceBEq, Int.reduceLT, Int.reduceToNat, Int.reducePow, Nat.reduceLeDiff, Int.reduceLE, Nat.reduceMul, Nat.reduceSub, rf3_eq]
        exact ⟨.inr rfl, 0, by simp only [resAV, resL, resOne, go_sem, Nat.reduceAdd, Nat.reduceEqDiff, Nat.reduceLT, reduceIte, reduceCtorEq, Nat.reduceBEq, Int.reduceLT, Int.reduceToNat, Int.reducePow, Nat.reduceLeDiff, Int.reduceLE, Nat.reduceMul, Nat.reduceSub], by simp [go_sem, Nat.reduceAdd, Nat.reduceEqDiff, Nat.reduceLT, reduceIte, reduceCtorEq, Nat.reduceBEq, Int.reduceLT, Int.reduceToNat, Int.reducePow, Nat.reduceLeDiff, Int.reduceLE, Nat.reduceMul, Nat.reduceSub]⟩
      · simp only [go_sem, Nat.reduceAdd, Nat.reduceEqDiff, Nat.reduceLT, reduceIte, reduceCtorEq, Nat.reduceBEq, Int.reduceLT, Int.reduceToNat, Int.reducePow, Nat.reduceLeDiff, Int.reduceLE, Nat.reduceMul, Nat.reduceSub]
        refine cGo_split (fun h4 => ?_) (fun h4 => ?_) <;> simp only [decide_eq_true_eq, decide_eq_false_iff_not] at h4
        · simp only [go_sem, Nat.reduceAdd, Nat.reduceEqDiff, Nat.reduceLT, reduceIte, reduceCtorEq, Nat.reduceBEq, Int.reduceLT, Int.reduceToNat, Int.reducePow, Nat.reduceLeDiff, Int.reduceLE, Nat.reduceMul, Nat.reduceSub, partOf, h1, h2, h3, h4]
          refine callGo_pure rows4_pure rfl ?_
          simp only [go_sem, Nat.reduceAdd, Nat.reduceEqDiff, Nat.reduceLT, reduceIte, reduceCtorEq, Nat.reduceBEq, Int.reduceLT, Int.reduceToNat, Int.reducePow, Nat.reduceLeDiff, Int.reduceLE, Nat.reduceMul, Nat.reduceSub, rf4_eq]
          exact ⟨.inr rfl, 0, by simp only [resAV, resL, resOne, go_sem, Nat.reduceAdd, Nat.reduceEqDiff, Nat.reduceLT, reduceIte, reduceCtorEq, Nat.reduceBEq, Int.reduceLT, Int.reduceToNat, Int.reducePow, Nat.reduceLeDiff, Int.reduceLE, Nat.reduceMul, Nat.reduceSub], by simp [go_sem, Nat.reduceAdd, Nat.reduceEqDiff, Nat.reduceLT, reduceIte, reduceCtorEq, Nat.reduceBEq, Int.reduceLT, Int.reduceToNat, Int.reducePow, Nat.reduceLeDiff, Int.reduceLE, Nat.reduceMul, Nat.reduceSub]⟩
        · simp only [go_sem, Nat.reduceAdd, Nat.reduceEqDiff, Nat.reduceLT, reduceIte, reduceCtorEq, Nat.reduceBEq, Int.reduceLT, Int.reduceToNat, Int.reducePow, Nat.reduceLeDiff, Int.reduceLE, Nat.reduceMul, Nat.reduceSub, partOf, h1, h2, h3, h4]
          refine callGo_pure rows5_pure rfl ?_
          simp only [go_sem, Nat.reduceAdd, Nat.reduceEqDiff, Nat.reduceLT, reduceIte, reduceCtorEq, Nat.reduceBEq, Int.reduceLT, Int.reduceToNat, Int.reducePow, Nat.reduceLeDiff, Int.reduceLE, Nat.reduceMul, Nat.reduceSub, rf5_eq]
          exact ⟨.inr rfl, 0, by simp only [resAV, resL, resOne, go_sem, Nat.reduceAdd, Nat.reduceEqDiff, Nat.reduceLT, reduceIte, reduceCtorEq, Nat.reduceBEq, Int.reduceLT, Int.reduceToNat, Int.reducePow, Nat.reduceLeDiff, Int.reduceLE, Nat.reduceMul, Nat.reduceSub], by simp [go_sem, Nat.reduceAdd, Nat.reduceEqDiff, Nat.reduceLT, reduceIte, reduceCtorEq, Nat.reduceBEq, Int.reduceLT, Int.reduceToNat, Int.reducePow, Nat.reduceLeDiff, Int.reduceLE, Nat.reduceMul, Nat.reduceSub]⟩

theorem octets_in {x : Row} (h : octets x = true) : (0 ≤ x.cat ∧ x.cat ≤ 255) ∧ (0 ≤ x.bidi ∧ x.bidi ≤ 255) ∧ (0 ≤ x.join ∧ x.join ≤ 255) ∧ (0 ≤ x.ccc ∧ x.ccc ≤ 255) ∧ (0 ≤ x.script ∧ x.script ≤ 255) ∧ (0 ≤ x.digits ∧ x.digits ≤ 255) ∧ 0 ≤ x.width ∧ x.width ≤ 255 := by
  simpa [octets] using h

set_option maxRecDepth 10000 in
theorem prop_pure {x : Row} (h : octets x = true) : Pure Try.prog 101 [.ag (x.nums.map .lit)] [] (.ag (x.prop.map .lit)) := by
  obtain ⟨h1, h2, h3, h4, h5, h6, h7⟩ := octets_in h
  refine pure0 Try.func101 c101 n101 e101 r101 (by simp) (by simp [AV.under, AV.underL, Row.prop]) ?_
  simp only [a101, astart, argSlots, Row.nums, go_sem, Nat.reduceAdd, Nat.reduceEqDiff, Nat.reduceLT, reduceIte, reduceCtorEq, Nat.reduceBEq, Int.reduceLT, Int.reduceToNat, Int.reducePow, Nat.reduceLeDiff, Int.reduceLE, Nat.reduceMul, Nat.reduceSub, Int.reduceLE, Int.reduceToNat, Nat.reduceMul]
  refine ⟨.inr rfl, resAV_one (resOne_ag (id := 1) prop_info prop_agg (by simp only [go_sem, Nat.reduceAdd, Nat.reduceEqDiff, Nat.reduceLT, reduceIte, reduceCtorEq, Nat.reduceBEq, Int.reduceLT, Int.reduceToNat, Int.reducePow, Nat.reduceLeDiff, Int.reduceLE, Nat.reduceMul, Nat.reduceSub]) (by simp only [go_sem, Nat.reduceAdd, Nat.reduceEqDiff, Nat.reduceLT, reduceIte, reduceCtorEq, Nat.reduceBEq, Int.reduceLT, Int.reduceToNat, Int.reducePow, Nat.reduceLeDiff, Int.reduceLE, Nat.reduceMul, Nat.reduceSub]; rfl) rfl) |>.trans ?_⟩
  rw [wrap_u8 _ h1.1 h1.2, wrap_u8 _ h2.1 h2.2, wrap_u8 _ h3.1 h3.2, wrap_u8 _ h4.1 h4.2, wrap_u8 _ h5.1 h5.2, wrap_u8 _ h6.1 h6.2, wrap_u8 _ h7.1 h7.2]
  rfl

set_option maxRecDepth 10000 in
theorem refOf_pure (r : Int) (hr : -2147483648 ≤ r ∧ r ≤ 2147483647) : Pure Try.prog 94 [.lit (.int .i32 r)] [] (.ag ((rowAt r).prop.map .lit)) := by
  refine pure0 Try.func94 c94 n94 e94 r94 (by simp) (by simp [AV.under, AV.underL, Row.prop]) ?_
  simp only [a94, astart, argSlots, go_sem, Nat.reduceAdd, Nat.reduceEqDiff, Nat.reduceLT, reduceIte, reduceCtorEq, Nat.reduceBEq, Int.reduceLT, Int.reduceToNat, Int.reducePow, Nat.reduceLeDiff, Int.reduceLE, Nat.reduceMul, Nat.reduceSub]
  refine callGo_pure (rows_pure r) (by rfl) ?_
  simp only [go_sem, Nat.reduceAdd, Nat.reduceEqDiff, Nat.reduceLT, reduceIte, reduceCtorEq, Nat.reduceBEq, Int.reduceLT, Int.reduceToNat, Int.reducePow, Nat.reduceLeDiff, Int.reduceLE, Nat.reduceMul, Nat.reduceSub]
  have hl := partOf_len r
  refine ⟨fun s => ∃ i : Nat, i ≤ (partOf r).length ∧ (∀ (j : Nat) (x : Row), j < i → (partOf r)[j]? = some x → ¬(x.fr ≤ r ∧ r ≤ x.to)) ∧
      s = ⟨[(0, some (.lit (.int .i32 r))), (2, some (.bp 0 0)), (3, some (.sl 133 ((partOf r).map Row.nums) (some 1))), (4, some (.lit (.int .i64 i)))], [(0, plainZero)], [(1, 133)], 2⟩,
    fun s => (partOf r).length - cnt 4 s, ⟨_, weak_by [0, 1] (by simp) rfl ?_ ?_ ?_ ?_, 0, Nat.zero_le _, fun j x hj => by omega, rfl⟩, ?_⟩
  · simp only [go_sem, Nat.reduceAdd, Nat.reduceEqDiff, Nat.reduceLT, reduceIte, reduceCtorEq, Nat.reduceBEq, Int.reduceLT, Int.reduceToNat, Int.reducePow, Nat.reduceLeDiff, Int.reduceLE, Nat.reduceMul, Nat.reduceSub, slotsBy, boxesBy, tipsBy, rawAt, nm, AV.ren, AV.renL, AV.under, AV.underL, List.all_nil, List.all_cons, bne_self_eq_false, List.getD_cons_zero, List.getD_cons_succ, List.length_nil, List.length_cons, and_true, true_and, Int.natCast_zero]
  · simp only [go_sem, Nat.reduceAdd, Nat.reduceEqDiff, Nat.reduceLT, reduceIte, reduceCtorEq, Nat.reduceBEq, Int.reduceLT, Int.reduceToNat, Int.reducePow, Nat.reduceLeDiff, Int.reduceLE, Nat.reduceMul, Nat.reduceSub, slotsBy, boxesBy, tipsBy, rawAt, nm, AV.ren, AV.renL, AV.under, AV.underL, List.all_nil, List.all_cons, bne_self_eq_false, List.getD_cons_zero, List.getD_cons_succ, List.length_nil, List.length_cons, and_true, true_and, plainZero]
  · simp only [go_sem, Nat.reduceAdd, Nat.reduceEqDiff, Nat.reduceLT, reduceIte, reduceCtorEq, Nat.reduceBEq, Int.reduceLT, Int.reduceToNat, Int.reducePow, Nat.reduceLeDiff, Int.reduceLE, Nat.reduceMul, Nat.reduceSub, slotsBy, boxesBy, tipsBy, rawAt, nm, AV.ren, AV.renL, AV.under, AV.underL, List.all_nil, List.all_cons, bne_self_eq_false, List.getD_cons_zero, List.getD_cons_succ, List.length_nil, List.length_cons, and_true, true_and, beq_self_eq_true]
  · simp
  · rintro _ ⟨i, hi, hno, rfl⟩
    simp only [go_sem, Nat.reduceAdd, Nat.reduceEqDiff, Nat.reduceLT, reduceIte, reduceCtorEq, Nat.reduceBEq, Int.reduceLT, Int.reduceToNat, Int.reducePow, Nat.reduceLeDiff, Int.reduceLE, Nat.reduceMul, Nat.reduceSub, List.length_map]
    refine cGo_split (fun h => ?_) (fun h => ?_)
    · simp only [decide_eq_true_eq] at h
      have hlt : i < (partOf r).length := by omega
      have hx := List.getElem?_eq_getElem hlt
      have ho := partOf_octets r _ (List.getElem_mem hlt)
      generalize (partOf r)[i] = x at hx ho
      have hw : IntKind.i64.wrap r = r := wrap_i64 _ (by omega) (by omega)
      simp only [go_sem, Nat.reduceAdd, Nat.reduceEqDiff, Nat.reduceLT, reduceIte, reduceCtorEq, Nat.reduceBEq, Int.reduceLT, Int.reduceToNat, Int.reducePow, Nat.reduceLeDiff, Int.reduceLE, Nat.reduceMul, Nat.reduceSub, Int.natCast_nonneg, Int.toNat_natCast, nums_get, hx, Row.nums, Int.reduceLE, Nat.reduceMul, hw]
      refine gGo_splitT (fun h1 => ?_) (fun h1 => ?_) <;> (try simp only [decide_eq_true_eq, decide_eq_false_iff_not] at h1)
      · simp only [h1, go_sem, Nat.reduceAdd, Nat.reduceEqDiff, Nat.reduceLT, reduceIte, reduceCtorEq, Nat.reduceBEq, Int.reduceLT, Int.reduceToNat, Int.reducePow, Nat.reduceLeDiff, Int.reduceLE, Nat.reduceMul, Nat.reduceSub, Int.natCast_nonneg, Int.toNat_natCast, nums_get, hx, Row.nums, Int.reduceLE, Nat.reduceMul, hw]
        refine cGo_split (fun h2 => ?_) (fun h2 => ?_) <;> simp only [decide_eq_true_eq, decide_eq_false_iff_not] at h2
        · simp only [go_sem, Nat.reduceAdd, Nat.reduceEqDiff, Nat.reduceLT, reduceIte, reduceCtorEq, Nat.reduceBEq, Int.reduceLT, Int.reduceToNat, Int.reducePow, Nat.reduceLeDiff, Int.reduceLE, Nat.reduceMul, Nat.reduceSub, Int.natCast_nonneg, Int.toNat_natCast, nums_get, hx, Row.nums]
          refine callGo_pure (prop_pure ho) (by rfl) ?_
          simp only [go_sem, Nat.reduceAdd, Nat.reduceEqDiff, Nat.reduceLT, reduceIte, reduceCtorEq, Nat.reduceBEq, Int.reduceLT, Int.reduceToNat, Int.reducePow, Nat.reduceLeDiff, Int.reduceLE, Nat.reduceMul, Nat.reduceSub, plainZero, Row.prop]
          refine ⟨.inr rfl, resAV_one (resOne_ag (id := 0) prop_info prop_agg (by simp only [go_sem, Nat.reduceAdd, Nat.reduceEqDiff, Nat.reduceLT, reduceIte, reduceCtorEq, Nat.reduceBEq, Int.reduceLT, Int.reduceToNat, Int.reducePow, Nat.reduceLeDiff, Int.reduceLE, Nat.reduceMul, Nat.reduceSub]) (by simp only [go_sem, Nat.reduceAdd, Nat.reduceEqDiff, Nat.reduceLT, reduceIte, reduceCtorEq, Nat.reduceBEq, Int.reduceLT, Int.reduceToNat, Int.reducePow, Nat.reduceLeDiff, Int.reduceLE, Nat.reduceMul, Nat.reduceSub]; rfl) rfl) |>.trans ?_⟩
          rw [rowAt_in hx h1 h2]
        · simp only [go_sem, Nat.reduceAdd, Nat.reduceEqDiff, Nat.reduceLT, reduceIte, reduceCtorEq, Nat.reduceBEq, Int.reduceLT, Int.reduceToNat, Int.reducePow, Nat.reduceLeDiff, Int.reduceLE, Nat.reduceMul, Nat.reduceSub]
          simp (disch := omega) only [wrap_i64]
          refine ⟨_, weak_by [0, 1] (by simp) rfl ?_ ?_ ?_ ?_, ⟨i + 1, by omega, ?_, rfl⟩, ?_⟩
          · simp only [go_sem, Nat.reduceAdd, Nat.reduceEqDiff, Nat.reduceLT, reduceIte, reduceCtorEq, Nat.reduceBEq, Int.reduceLT, Int.reduceToNat, Int.reducePow, Nat.reduceLeDiff, Int.reduceLE, Nat.reduceMul, Nat.reduceSub, slotsBy, boxesBy, tipsBy, rawAt, nm, AV.ren, AV.renL, AV.under, AV.underL, List.all_nil, List.all_cons, bne_self_eq_false, List.getD_cons_zero, List.getD_cons_succ, List.length_nil, List.length_cons, and_true, true_and, Int.natCast_add, Int.natCast_one]
          · simp only [go_sem, Nat.reduceAdd, Nat.reduceEqDiff, Nat.reduceLT, reduceIte, reduceCtorEq, Nat.reduceBEq, Int.reduceLT, Int.reduceToNat, Int.reducePow, Nat.reduceLeDiff, Int.reduceLE, Nat.reduceMul, Nat.reduceSub, slotsBy, boxesBy, tipsBy, rawAt, nm, AV.ren, AV.renL, AV.under, AV.underL, List.all_nil, List.all_cons, bne_self_eq_false, List.getD_cons_zero, List.getD_cons_succ, List.length_nil, List.length_cons, and_true, true_and, plainZero]
          · simp only [go_sem, Nat.reduceAdd, Nat.reduceEqDiff, Nat.reduceLT, reduceIte, reduceCtorEq, Nat.reduceBEq, Int.reduceLT, Int.reduceToNat, Int.reducePow, Nat.reduceLeDiff, Int.reduceLE, Nat.reduceMul, Nat.reduceSub, slotsBy, boxesBy, tipsBy, rawAt, nm, AV.ren, AV.renL, AV.under, AV.underL, List.all_nil, List.all_cons, bne_self_eq_false, List.getD_cons_zero, List.getD_cons_succ, List.length_nil, List.length_cons, and_true, true_and, beq_self_eq_true]
          · simp
          · intro j y hj hy
            rcases Nat.lt_succ_iff_lt_or_eq.1 hj with hj | hj
            · exact hno j y hj hy
            · subst hj
              rw [hx, Option.some.injEq] at hy
              subst hy
              omega
          · simp only [cnt, go_sem, Nat.reduceAdd, Nat.reduceEqDiff, Nat.reduceLT, reduceIte, reduceCtorEq, Nat.reduceBEq, Int.reduceLT, Int.reduceToNat, Int.reducePow, Nat.reduceLeDiff, Int.reduceLE, Nat.reduceMul, Nat.reduceSub, Int.toNat_natCast]; omega
      · simp only [h1, go_sem, Nat.reduceAdd, Nat.reduceEqDiff, Nat.reduceLT, reduceIte, reduceCtorEq, Nat.reduceBEq, Int.reduceLT, Int.reduceToNat, Int.reducePow, Nat.reduceLeDiff, Int.reduceLE, Nat.reduceMul, Nat.reduceSub]
        simp (disch := omega) only [wrap_i64]
        refine ⟨_, weak_by [0, 1] (by simp) rfl ?_ ?_ ?_ ?_, ⟨i + 1, by omega, ?_, rfl⟩, ?_⟩
        · simp only [go_sem, Nat.reduceAdd, Nat.reduceEqDiff, Nat.reduceLT, reduceIte, reduceCtorEq, Nat.reduceBEq, Int.reduceLT, Int.reduceToNat, Int.reducePow, Nat.reduceLeDiff, Int.reduceLE, Nat.reduceMul, Nat.reduceSub, slotsBy, boxesBy, tipsBy, rawAt, nm, AV.ren, AV.renL, AV.under, AV.underL, List.all_nil, List.all_cons, bne_self_eq_false, List.getD_cons_zero, List.getD_cons_succ, List.length_nil, List.length_cons, and_true, true_and, Int.natCast_add, Int.natCast_one]
        · simp only [go_sem, Nat.reduceAdd, Nat.reduceEqDiff, Nat.reduceLT, reduceIte, reduceCtorEq, Nat.reduceBEq, Int.reduceLT, Int.reduceToNat, Int.reducePow, Nat.reduceLeDiff, Int.reduceLE, Nat.reduceMul, Nat.reduceSub, slotsBy, boxesBy, tipsBy, rawAt, nm, AV.ren, AV.renL, AV.under, AV.underL, List.all_nil, List.all_cons, bne_self_eq_false, List.getD_cons_zero, List.getD_cons_succ, List.length_nil, List.length_cons, and_true, true_and, plainZero]
        · simp only [go_sem, Nat.reduceAdd, Nat.reduceEqDiff, Nat.reduceLT, reduceIte, reduceCtorEq, Nat.reduceBEq, Int.reduceLT, Int.reduceToNat, Int.reducePow, Nat.reduceLeDiff, Int.reduceLE, Nat.reduceMul, Nat.reduceSub, slotsBy, boxesBy, tipsBy, rawAt, nm, AV.ren, AV.renL, AV.under, AV.underL, List.all_nil, List.all_cons, bne_self_eq_false, List.getD_cons_zero, List.getD_cons_succ, List.length_nil, List.length_cons, and_true, true_and, beq_self_eq_true]
        · simp
        · intro j y hj hy
          rcases Nat.lt_succ_iff_lt_or_eq.1 hj with hj | hj
          · exact hno j y hj hy
          · subst hj
            rw [hx, Option.some.injEq] at hy
            subst hy
            omega
        · simp only [cnt, go_sem, Nat.reduceAdd, Nat.reduceEqDiff, Nat.reduceLT, reduceIte, reduceCtorEq, Nat.reduceBEq, Int.reduceLT, Int.reduceToNat, Int.reducePow, Nat.reduceLeDiff, Int.reduceLE, Nat.reduceMul, Nat.reduceSub, Int.toNat_natCast]; omega
    · simp only [decide_eq_false_iff_not] at h
      have hie : i = (partOf r).length := by omega
      subst hie
      simp only [go_sem, Nat.reduceAdd, Nat.reduceEqDiff, Nat.reduceLT, reduceIte, reduceCtorEq, Nat.reduceBEq, Int.reduceLT, Int.reduceToNat, Int.reducePow, Nat.reduceLeDiff, Int.reduceLE, Nat.reduceMul, Nat.reduceSub, plainZero]
      refine ⟨.inr rfl, resAV_one (resOne_ag (id := 0) prop_info prop_agg (by simp only [go_sem, Nat.reduceAdd, Nat.reduceEqDiff, Nat.reduceLT, reduceIte, reduceCtorEq, Nat.reduceBEq, Int.reduceLT, Int.reduceToNat, Int.reducePow, Nat.reduceLeDiff, Int.reduceLE, Nat.reduceMul, Nat.reduceSub]) (by simp only [go_sem, Nat.reduceAdd, Nat.reduceEqDiff, Nat.reduceLT, reduceIte, reduceCtorEq, Nat.reduceBEq, Int.reduceLT, Int.reduceToNat, Int.reducePow, Nat.reduceLeDiff, Int.reduceLE, Nat.reduceMul, Nat.reduceSub]; rfl) rfl) |>.trans ?_⟩
      rw [rowAt_out fun j x hx => hno j x (List.getElem?_eq_some_iff.1 hx).1 hx]; rfl
end Go.Proofs.Ytmhpjoadfgplgaa
