/-
Counts of scripts: without some; how many. Conditions: none.
-/
import Derived.Test.YtocaeclhmkojiaaMix2
set_option linter.unusedSimpArgs false
set_option linter.unusedVariables false
set_option linter.unusedSectionVars false
namespace Go.Proofs.Ytocaeclhmkojiaa
open Go Go.Ab
def a63 : ACode :=
  (.seq (.reg [⟨(.some 2), (.box 66 (.t 0)), .none⟩, ⟨(.some 4), (.alc 66 [(.int .i64 0), (.int .i64 0), (.int .i64 0), (.int .i64 0), (.int .i64 0), (.int .i64 0), (.int .i64 0), (.int .i64 0), (.int
  .i64 0), (.int .i64 0), (.int .i64 0), (.int .i64 0)]), .none⟩]) (.seq (.seq (.reg [⟨(.some 7), (.mv (.t 1)), .none⟩, ⟨(.some 8), (.len (.t 7)), .none⟩, ⟨(.some 9), (.mv (.k (.int .i64 0))), .none⟩])
  (.block 0 (.loop (.seq (.reg [⟨(.some 10), (.bin .lss (.t 9) (.t 8)), .none⟩]) (.seq (.cond (.t 10) .skip (.exit 0)) (.seq (.block 1 (.seq (.reg [⟨(.some 11), (.ia 5 (.t 7) (.t 9)), .none⟩, ⟨(.some
  12), (.ld .none (.t 11)), .none⟩, ⟨(.some 6), (.mv (.t 12)), .none⟩]) (.reg [⟨(.some 13), (.mv (.t 6)), .none⟩, ⟨(.some 14), (.iaA 12 1 (.t 2) (.t 13)), .none⟩, ⟨.none, (.st 1 (.t 14) (.k (.int .i64
  0))), .none⟩]))) (.reg [⟨(.some 15), (.bin .add (.t 9) (.k (.int .i64 1))), .none⟩, ⟨(.some 9), (.mv (.t 15)), .none⟩]))))))) (.seq (.reg [⟨(.some 16), (.ld (.some 12) (.t 2)), .none⟩, ⟨.none, (.st 12
  (.t 4) (.t 16)), .none⟩]) .ret)))
theorem c63 : Try.f63.body.bind (cCode Try.prog 17) = some a63 := by kernel_rfl
theorem r63 : Try.f63.results.toList = [(.cell 4 66)] := by kernel_rfl
theorem n63 : Try.f63.ntmps = 17 := by kernel_rfl
theorem e63 : Enters Try.prog 63 := enters_of Try.func63 (by kernel_rfl) (by kernel_rfl)
def a61 : ACode :=
  (.seq (.reg [⟨(.some 1), (.box 66 (.t 0)), .none⟩, ⟨(.some 2), (.mv (.k (.int .i64 0))), .none⟩]) (.seq (.reg [⟨(.some 3), (.mv (.k (.int .i64 0))), .none⟩]) (.seq (.seq (.reg [⟨(.some 6), (.ld (.some
  12) (.t 1)), .none⟩, ⟨(.some 7), (.mv (.k (.int .i64 0))), .none⟩]) (.block 0 (.loop (.seq (.reg [⟨(.some 8), (.bin .lss (.t 7) (.k (.int .i64 12))), .none⟩]) (.seq (.cond (.t 8) .skip (.exit 0))
  (.seq (.block 1 (.seq (.reg [⟨(.some 9), (.ixA 12 1 .none (.t 6) (.t 7)), .none⟩, ⟨(.some 5), (.mv (.t 9)), .none⟩]) (.reg [⟨(.some 10), (.mv (.t 3)), .none⟩, ⟨(.some 11), (.mv (.t 5)), .none⟩,
  ⟨(.some 12), (.bin .add (.t 10) (.t 11)), .none⟩, ⟨(.some 3), (.mv (.t 12)), .none⟩]))) (.reg [⟨(.some 13), (.bin .add (.t 7) (.k (.int .i64 1))), .none⟩, ⟨(.some 7), (.mv (.t 13)), .none⟩])))))))
  (.seq (.reg [⟨(.some 14), (.mv (.t 3)), .none⟩, ⟨(.some 2), (.mv (.t 14)), .none⟩]) .ret))))
theorem c61 : Try.f61.body.bind (cCode Try.prog 15) = some a61 := by kernel_rfl
theorem r61 : Try.f61.results.toList = [(.tmp 2)] := by kernel_rfl
theorem n61 : Try.f61.ntmps = 15 := by kernel_rfl
theorem e61 : Enters Try.prog 61 := enters_of Try.func61 (by kernel_rfl) (by kernel_rfl)

/-- Bytes as cells. -/
def octs (l : List Nat) : List (List Value) := l.map fun (n : Nat) => [.int .u8 (n : Int)]
theorem octs_length (l : List Nat) : (octs l).length = l.length := by simp [octs]
theorem octs_get (l : List Nat) (i : Nat) (h : i < l.length) : (octs l)[i]? = some [.int .u8 (l[i] : Int)] := by simp [octs, h]

/-- Some put to nothing. -/
def cleared (cs : List Int) : List Nat → List Int
  | [] => cs
  | s :: l => cleared (cs.set s 0) l
theorem cleared_length (cs : List Int) (l : List Nat) : (cleared cs l).length = cs.length := by
  induction l generalizing cs with
  | nil => rfl
  | cons r l ih => simp [cleared, ih]
theorem cleared_take {cs : List Int} {l : List Nat} {i : Nat} (hi : i < l.length) : cleared cs (l.take (i + 1)) = (cleared cs (l.take i)).set l[i] 0 := by
  induction l generalizing cs i with
  | nil => simp at hi
  | cons r l ih =>
    cases i with
    | zero => simp [cleared]
    | succ i => simp only [List.take_succ_cons, cleared]; exact ih (by simpa using hi)

theorem cells_nums (cs : List Int) : AV.cells (.ag (nums cs)) = nums cs := rfl

set_option maxRecDepth 10000 in
theorem without_pure (cs : List Int) (l : List Nat) (hcs : cs.length = 12) (hl : l.length ≤ 4611686018427387904) (h12 : ∀ s ∈ l, s < 12) :
    Pure Try.prog 63 [.ag (nums cs), .sl 5 (octs l) none] [] (.ag (nums (cleared cs l))) := by
  refine pure0 Try.func63 c63 n63 e63 r63 (by simp) (by simp only [AV.under, nums_under]) ?_
  simp only [a63, astart, argSlots, go_sem, Nat.reduceAdd, Nat.reduceEqDiff, Nat.reduceLT, reduceIte, reduceCtorEq, Nat.reduceBEq, Int.reduceLT, Int.reduceToNat, Int.reducePow, Nat.reduceLeDiff, Int.reduceLE, Nat.reduceMul, Nat.reduceSub, nums_one, octs_length]
  refine loop_to l.length (fun i => ⟨[(2, some (.bp 0 0)), (4, some (.bp 1 0)), (7, some (.sl 5 (octs l) none)), (8, some (.lit (.int .i64 l.length))), (9, some (.lit (.int .i64 i)))], [(1, nums zeros), (0, nums (cleared cs (l.take i)))], [], 2⟩)
    (fun _ => True) (weak_by [0, 1] (by simp) rfl ?_ ?_ trivial (by simp)) trivial ?_ ?_
  · simp only [go_sem, Nat.reduceAdd, Nat.reduceEqDiff, Nat.reduceLT, reduceIte, reduceCtorEq, Nat.reduceBEq, Int.reduceLT, Int.reduceToNat, Int.reducePow, Nat.reduceLeDiff, Int.reduceLE, Nat.reduceMul, Nat.reduceSub, slotsBy, boxesBy, tipsBy, rawAt, nm, AV.ren, AV.renL, AV.under, AV.underL, List.all_nil, List.all_cons, bne_self_eq_false, List.getD_cons_zero, List.getD_cons_succ, List.length_nil, List.length_cons, and_true, true_and, Int.natCast_zero]
  · simp only [go_sem, Nat.reduceAdd, Nat.reduceEqDiff, Nat.reduceLT, reduceIte, reduceCtorEq, Nat.reduceBEq, Int.reduceLT, Int.reduceToNat, Int.reducePow, Nat.reduceLeDiff, Int.reduceLE, Nat.reduceMul, Nat.reduceSub, slotsBy, boxesBy, tipsBy, rawAt, nm, AV.ren, AV.renL, AV.under, AV.underL, List.all_nil, List.all_cons, bne_self_eq_false, List.getD_cons_zero, List.getD_cons_succ, List.length_nil, List.length_cons, and_true, true_and, zeros_nums, nums_ren, nums_under, cleared]
    simp
  · intro i hi _
    have hlt : (decide ((i : Int) < (l.length : Int))) = true := by simp only [decide_eq_true_eq]; omega
    have hs := h12 _ (List.getElem_mem hi)
    have hlen : (cleared cs (l.take i)).length = 12 := by rw [cleared_length]; exact hcs
    simp only [go_sem, Nat.reduceAdd, Nat.reduceEqDiff, Nat.reduceLT, reduceIte, reduceCtorEq, Nat.reduceBEq, Int.reduceLT, Int.reduceToNat, Int.reducePow, Nat.reduceLeDiff, Int.reduceLE, Nat.reduceMul, Nat.reduceSub, hlt, Int.natCast_nonneg, Int.toNat_natCast, octs_get l i hi, octs_length, hs, Nat.mul_one]
    refine ⟨by rw [nums_length]; omega, ?_⟩
    simp (disch := omega) only [wrap_i64]
    rw [nums_set _ _ _ (by omega), ← cleared_take hi]
    refine weak_by [0, 1] (by simp) rfl ?_ ?_ trivial (by simp)
    · simp only [go_sem, Nat.reduceAdd, Nat.reduceEqDiff, Nat.reduceLT, reduceIte, reduceCtorEq, Nat.reduceBEq, Int.reduceLT, Int.reduceToNat, Int.reducePow, Nat.reduceLeDiff, Int.reduceLE, Nat.reduceMul, Nat.reduceSub, slotsBy, boxesBy, tipsBy, rawAt, nm, AV.ren, AV.renL, AV.under, AV.underL, List.all_nil, List.all_cons, bne_self_eq_false, List.getD_cons_zero, List.getD_cons_succ, List.length_nil, List.length_cons, and_true, true_and, Int.natCast_add, Int.natCast_one]
    · simp only [go_sem, Nat.reduceAdd, Nat.reduceEqDiff, Nat.reduceLT, reduceIte, reduceCtorEq, Nat.reduceBEq, Int.reduceLT, Int.reduceToNat, Int.reducePow, Nat.reduceLeDiff, Int.reduceLE, Nat.reduceMul, Nat.reduceSub, slotsBy, boxesBy, tipsBy, rawAt, nm, AV.ren, AV.renL, AV.under, AV.underL, List.all_nil, List.all_cons, bne_self_eq_false, List.getD_cons_zero, List.getD_cons_succ, List.length_nil, List.length_cons, and_true, true_and, nums_ren, nums_under]
      simp
  · intro _
    have hlt : (decide ((l.length : Int) < (l.length : Int))) = false := by simp
    have hlen : (cleared cs l).length = 12 := by rw [cleared_length]; exact hcs
    rw [List.take_length]
    generalize cleared cs l = X at hlen
    obtain ⟨x0, x1, x2, x3, x4, x5, x6, x7, x8, x9, x10, x11, rfl⟩ := twelve hlen
    simp only [go_sem, Nat.reduceAdd, Nat.reduceEqDiff, Nat.reduceLT, reduceIte, reduceCtorEq, Nat.reduceBEq, Int.reduceLT, Int.reduceToNat, Int.reducePow, Nat.reduceLeDiff, Int.reduceLE, Nat.reduceMul, Nat.reduceSub, hlt, nums, zeros, Int.reduceLE, Nat.reduceMul, List.replicate_succ, List.replicate_zero]
    exact ⟨.inr rfl, resAV_one (resOne_ag (id := 1) counts_info counts_agg (by simp only [go_sem, Nat.reduceAdd, Nat.reduceEqDiff, Nat.reduceLT, reduceIte, reduceCtorEq, Nat.reduceBEq, Int.reduceLT, Int.reduceToNat, Int.reducePow, Nat.reduceLeDiff, Int.reduceLE, Nat.reduceMul, Nat.reduceSub]) (by simp only [go_sem, Nat.reduceAdd, Nat.reduceEqDiff, Nat.reduceLT, reduceIte, reduceCtorEq, Nat.reduceBEq, Int.reduceLT, Int.reduceToNat, Int.reducePow, Nat.reduceLeDiff, Int.reduceLE, Nat.reduceMul, Nat.reduceSub]) rfl)⟩

theorem nums_at (cs : List Int) (i : Nat) (h : i < cs.length) : (nums cs)[i]? = some (.lit (.int .i64 cs[i])) := by simp [nums, h]

def total (cs : List Int) : Int := cs.sum
theorem total_take {cs : List Int} {i : Nat} (h : i < cs.length) : total (cs.take (i + 1)) = total (cs.take i) + cs[i] := by
  induction cs generalizing i with
  | nil => simp at h
  | cons c cs ih =>
    cases i with
    | zero => simp [total]
    | succ i =>
      have := ih (i := i) (by simpa using h)
      simp only [List.take_succ_cons, total, List.sum_cons, List.getElem_cons_succ] at this ⊢
      omega
theorem total_in {cs : List Int} (h : ∀ c ∈ cs, 0 ≤ c ∧ c ≤ 1) : 0 ≤ total cs ∧ total cs ≤ cs.length := by
  induction cs with
  | nil => simp [total]
  | cons c cs ih =>
    have h1 := h c (by simp)
    have h2 := ih fun x hx => h x (List.mem_cons_of_mem _ hx)
    simp only [total, List.sum_cons, List.length_cons] at h2 ⊢
    omega

set_option maxRecDepth 10000 in
theorem many_pure (cs : List Int) (hcs : cs.length = 12) (h01 : ∀ c ∈ cs, 0 ≤ c ∧ c ≤ 1) : Pure Try.prog 61 [.ag (nums cs)] [] (.lit (.int .i64 (total cs))) := by
  refine pure0 Try.func61 c61 n61 e61 r61 (by simp) rfl ?_
  have ht : (nums cs).take 12 = nums cs := List.take_of_length_le (by rw [nums_length]; omega)
  have hln : (12 ≤ (nums cs).length) = True := by rw [nums_length]; simp [hcs]
  simp only [a61, astart, argSlots, go_sem, Nat.reduceAdd, Nat.reduceEqDiff, Nat.reduceLT, reduceIte, reduceCtorEq, Nat.reduceBEq, Int.reduceLT, Int.reduceToNat, Int.reducePow, Nat.reduceLeDiff, Int.reduceLE, Nat.reduceMul, Nat.reduceSub, nums_one, ht, hln]
  refine loop_to 12 (fun i => ⟨[(3, some (.lit (.int .i64 (total (cs.take i))))), (6, some (.ag (nums cs))), (7, some (.lit (.int .i64 i)))], [], [], 0⟩)
    (fun _ => True) (weak_by [] (by simp) rfl ?_ trivial trivial (by simp)) trivial ?_ ?_
  · simp only [go_sem, Nat.reduceAdd, Nat.reduceEqDiff, Nat.reduceLT, reduceIte, reduceCtorEq, Nat.reduceBEq, Int.reduceLT, Int.reduceToNat, Int.reducePow, Nat.reduceLeDiff, Int.reduceLE, Nat.reduceMul, Nat.reduceSub, slotsBy, boxesBy, tipsBy, rawAt, nm, AV.ren, AV.renL, AV.under, AV.underL, List.all_nil, List.all_cons, bne_self_eq_false, List.getD_cons_zero, List.getD_cons_succ, List.length_nil, List.length_cons, and_true, true_and, Int.natCast_zero, nums_ren, nums_under]
    simp [total]
  · intro i hi _
    have hlt : (decide ((i : Int) < 12)) = true := by simp only [decide_eq_true_eq]; omega
    have hin := total_in (cs := cs.take (i + 1)) fun c hc => h01 c (List.mem_of_mem_take hc)
    have hle := List.length_take_le (i + 1) cs
    have htk := total_take (cs := cs) (i := i) (by omega)
    rw [htk] at hin
    simp only [go_sem, Nat.reduceAdd, Nat.reduceEqDiff, Nat.reduceLT, reduceIte, reduceCtorEq, Nat.reduceBEq, Int.reduceLT, Int.reduceToNat, Int.reducePow, Nat.reduceLeDiff, Int.reduceLE, Nat.reduceMul, Nat.reduceSub, hlt, Int.natCast_nonneg, Int.toNat_natCast, hi, Nat.mul_one, List.getElem?_drop, nums_at cs i (by omega)]
    simp (disch := omega) only [wrap_i64]
    refine weak_by [] (by simp) rfl ?_ trivial trivial (by simp)
    simp only [go_sem, Nat.reduceAdd, Nat.reduceEqDiff, Nat.reduceLT, reduceIte, reduceCtorEq, Nat.reduceBEq, Int.reduceLT, Int.reduceToNat, Int.reducePow, Nat.reduceLeDiff, Int.reduceLE, Nat.reduceMul, Nat.reduceSub, slotsBy, boxesBy, tipsBy, rawAt, nm, AV.ren, AV.renL, AV.under, AV.underL, List.all_nil, List.all_cons, bne_self_eq_false, List.getD_cons_zero, List.getD_cons_succ, List.length_nil, List.length_cons, and_true, true_and, htk, nums_ren, nums_under, Int.natCast_add, Int.natCast_one]
  · intro _
    have hlt : (decide (((12 : Nat) : Int) < 12)) = false := by simp
    simp only [go_sem, Nat.reduceAdd, Nat.reduceEqDiff, Nat.reduceLT, reduceIte, reduceCtorEq, Nat.reduceBEq, Int.reduceLT, Int.reduceToNat, Int.reducePow, Nat.reduceLeDiff, Int.reduceLE, Nat.reduceMul, Nat.reduceSub, hlt]
    simp only [Done, resAV, resL, resOne, look_nil, look_cons, Nat.reduceEqDiff, if_true, if_false, reduceIte, ite_true, ite_false, Nat.zero_ne_one, Nat.one_ne_zero, reduceCtorEq, true_or, or_true, true_and, Option.some.injEq, AV.lit.injEq, Value.int.injEq, Value.bool.injEq]
    rw [List.take_of_length_le (by omega)]
end Go.Proofs.Ytocaeclhmkojiaa
