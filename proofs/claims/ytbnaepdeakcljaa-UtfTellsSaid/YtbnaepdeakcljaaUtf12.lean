/-
The number that bytes say, by the document. Conditions: none.
-/
import Derived.Test.YtbnaepdeakcljaaUtf11
set_option linter.unusedSimpArgs false
set_option linter.unusedVariables false
set_option linter.unusedSectionVars false
namespace Go.Proofs.Ytbnaepdeakcljaa
open Go Go.Ab
def a39 : ACode :=
  (.seq (.reg [⟨(.some 6), (.mv (.k (.int .i64 0))), .none⟩]) (.seq (.reg [⟨(.some 10), (.mv (.t 0)), .none⟩, ⟨(.some 11), (.ia 5 (.t 10) (.k (.int .i64 0))), .none⟩, ⟨(.some 12), (.ld .none (.t 11)),
  .none⟩, ⟨(.some 13), (.cvI .i64 (.t 12)), .none⟩, ⟨(.some 7), (.mv (.t 13)), .none⟩]) (.seq (.seq (.reg [⟨(.some 14), (.mv (.t 1)), .none⟩]) (.block 0 (.seq (.reg [⟨(.some 16), (.bin .eql (.t 14) (.k
  (.int .i64 2))), .none⟩, ⟨(.some 15), (.mv (.t 16)), .none⟩]) (.cond (.t 15) (.reg [⟨(.some 17), (.mv (.t 7)), .none⟩, ⟨(.some 18), (.bin .sub (.t 17) (.k (.int .i64 192))), .none⟩, ⟨(.some 7), (.mv
  (.t 18)), .none⟩]) (.seq (.reg [⟨(.some 20), (.bin .eql (.t 14) (.k (.int .i64 3))), .none⟩, ⟨(.some 19), (.mv (.t 20)), .none⟩]) (.cond (.t 19) (.reg [⟨(.some 21), (.mv (.t 7)), .none⟩, ⟨(.some 22),
  (.bin .sub (.t 21) (.k (.int .i64 224))), .none⟩, ⟨(.some 7), (.mv (.t 22)), .none⟩]) (.seq (.reg [⟨(.some 24), (.bin .eql (.t 14) (.k (.int .i64 4))), .none⟩, ⟨(.some 23), (.mv (.t 24)), .none⟩])
  (.cond (.t 23) (.reg [⟨(.some 25), (.mv (.t 7)), .none⟩, ⟨(.some 26), (.bin .sub (.t 25) (.k (.int .i64 240))), .none⟩, ⟨(.some 7), (.mv (.t 26)), .none⟩]) .skip)))))))) (.seq (.seq (.reg [⟨(.some 8),
  (.mv (.k (.int .i64 1))), .none⟩]) (.block 1 (.loop (.seq (.seq (.reg [⟨(.some 27), (.mv (.t 8)), .none⟩, ⟨(.some 28), (.mv (.t 1)), .none⟩, ⟨(.some 29), (.bin .lss (.t 27) (.t 28)), .none⟩]) (.cond
  (.t 29) .skip (.exit 1))) (.seq (.block 2 (.seq (.reg [⟨(.some 32), (.mv (.t 2)), .none⟩, ⟨(.some 9), (.mv (.t 32)), .none⟩]) (.seq (.seq (.reg [⟨(.some 33), (.mv (.t 8)), .none⟩, ⟨(.some 34), (.mv
  (.t 0)), .none⟩, ⟨(.some 35), (.len (.t 34)), .none⟩, ⟨(.some 36), (.bin .lss (.t 33) (.t 35)), .none⟩]) (.cond (.t 36) (.reg [⟨(.some 37), (.mv (.t 0)), .none⟩, ⟨(.some 38), (.mv (.t 8)), .none⟩,
  ⟨(.some 39), (.ia 5 (.t 37) (.t 38)), .none⟩, ⟨(.some 40), (.ld .none (.t 39)), .none⟩, ⟨(.some 41), (.cvI .i64 (.t 40)), .none⟩, ⟨(.some 42), (.bin .sub (.t 41) (.k (.int .i64 128))), .none⟩, ⟨(.some
  9), (.mv (.t 42)), .none⟩]) .skip)) (.reg [⟨(.some 43), (.mv (.t 7)), .none⟩, ⟨(.some 44), (.bin .mul (.k (.int .i64 64)) (.t 43)), .none⟩, ⟨(.some 45), (.mv (.t 9)), .none⟩, ⟨(.some 46), (.bin .add
  (.t 44) (.t 45)), .none⟩, ⟨(.some 7), (.mv (.t 46)), .none⟩])))) (.reg [⟨(.some 30), (.mv (.t 8)), .none⟩, ⟨(.some 31), (.bin .add (.t 30) (.k (.int .i64 1))), .none⟩, ⟨(.some 8), (.mv (.t 31)),
  .none⟩])))))) (.seq (.reg [⟨(.some 47), (.mv (.t 7)), .none⟩, ⟨(.some 6), (.mv (.t 47)), .none⟩]) .ret)))))
theorem c39 : Try.f39.body.bind (cCode Try.prog 48) = some a39 := by kernel_rfl
theorem r39 : Try.f39.results.toList = [(.tmp 6)] := by kernel_rfl
theorem n39 : Try.f39.ntmps = 48 := by kernel_rfl
theorem e39 : Enters Try.prog 39 := enters_of Try.func39 (by kernel_rfl) (by kernel_rfl)

def numI (f : Int) : Nat → Int → List Nat → Int
  | 0, x, _ => x
  | m + 1, x, [] => numI f m (64 * x + f) []
  | m + 1, x, y :: t => numI f m (64 * x + ((y : Int) - 128)) t
def digit (f : Int) (t : List Nat) (m : Nat) : Int := match t[m]? with
  | some y => (y : Int) - 128
  | none => f
theorem numI_snoc (f : Int) : ∀ (m : Nat) (x : Int) (t : List Nat), numI f (m + 1) x t = 64 * numI f m x t + digit f t m
  | 0, x, [] => rfl
  | 0, x, y :: t => rfl
  | m + 1, x, [] => by
    rw [numI, numI_snoc f m]; rfl
  | m + 1, x, y :: t => by
    rw [numI, numI_snoc f m]
    simp only [numI, digit, List.getElem?_cons_succ]
theorem numI_bound {f : Int} (hf : 0 ≤ f ∧ f ≤ 63) {t : List Nat} (ht : ∀ y ∈ t, y ≤ 255) {x : Int} (hx : -256 ≤ x ∧ x ≤ 256) : ∀ m : Nat, m ≤ 3 → -100000000 ≤ numI f m x t ∧ numI f m x t ≤ 100000000 := by
  have hd : ∀ m, -128 ≤ digit f t m ∧ digit f t m ≤ 127 := by
    intro m
    unfold digit
    split
    · rename_i y hy
      have := ht y (List.mem_of_getElem? hy)
      omega
    · omega
  have e0 : numI f 0 x t = x := rfl
  have e1 := numI_snoc f 0 x t
  have e2 := numI_snoc f 1 x t
  have e3 := numI_snoc f 2 x t
  have d0 := hd 0
  have d1 := hd 1
  have d2 := hd 2
  intro m hm
  have : m = 0 ∨ m = 1 ∨ m = 2 ∨ m = 3 := by omega
  rcases this with rfl | rfl | rfl | rfl <;> simp only [Nat.zero_add, Nat.reduceAdd] at * <;> omega

def subN (n c : Nat) : Int := if n = 2 then (c : Int) - 192 else if n = 3 then (c : Int) - 224 else if n = 4 then (c : Int) - 240 else (c : Int)

set_option maxRecDepth 10000 in
theorem number_pure (c : Nat) (t : List Nat) (hc : c ≤ 255) (ht : ∀ y ∈ t, y ≤ 255) (hl : t.length ≤ 1099511627776) (n : Nat) (hn : 1 ≤ n ∧ n ≤ 4) (f : Int) (hf : 0 ≤ f ∧ f ≤ 63) :
    Pure Try.prog 39 [.sl 5 (octs (c :: t)) none, .lit (.int .i64 n), .lit (.int .i64 f)] [] (.lit (.int .i64 (numI f (n - 1) (subN n c) t))) := by
  refine pure0 Try.func39 c39 n39 e39 r39 (by simp) rfl ?_
  have hg0 : (octs (c :: t))[0]? = some [.int .u8 (c : Int)] := rfl
  have hwc : IntKind.i64.wrap (c : Int) = (c : Int) := wrap_i64 _ (by omega) (by omega)
  have hws : ∀ k : Int, 0 ≤ k → k ≤ 255 → IntKind.i64.wrap ((c : Int) - k) = (c : Int) - k := fun k h1 h2 => wrap_i64 _ (by omega) (by omega)
  have hxs : -256 ≤ subN n c ∧ subN n c ≤ 256 := by unfold subN; (repeat' split) <;> omega
  simp only [a39, astart, argSlots, go_sem, Nat.reduceAdd, Nat.reduceEqDiff, Nat.reduceLT, reduceIte, reduceCtorEq, Nat.reduceBEq, Int.reduceLT, Int.reduceToNat, Int.reducePow, Nat.reduceLeDiff, Int.reduceLE, Nat.reduceMul, Nat.reduceSub, hg0, hwc]
  have hN : n = 1 ∨ n = 2 ∨ n = 3 ∨ n = 4 := by omega
  have hbn := numI_bound hf ht hxs
  rcases hN with rfl | rfl | rfl | rfl
  · have e1 : (((1 : Nat) : Int)) = 1 := rfl
    have hsub : subN 1 c = (c : Int) := rfl
    simp only [e1, go_sem, Nat.reduceAdd, Nat.reduceEqDiff, Nat.reduceLT, reduceIte, reduceCtorEq, Nat.reduceBEq, Int.reduceLT, Int.reduceToNat, Int.reducePow, Nat.reduceLeDiff, Int.reduceLE, Nat.reduceMul, Nat.reduceSub, Int.reduceBEq]
    refine loop_to 0 (fun j => ⟨[(0, some (.sl 5 (octs (c :: t)) none)), (1, some (.lit (.int .i64 1))), (2, some (.lit (.int .i64 f))), (7, some (.lit (.int .i64 (numI f j (subN 1 c) t)))), (8, some (.lit (.int .i64 ((j + 1 : Nat) : Int))))], [], [], 0⟩) (fun j => j ≤ 0)
      (weak_by [] (by simp) rfl ?_ ?_ ?_ ?_) (Nat.zero_le _) ?_ ?_
    · simp only [go_sem, Nat.reduceAdd, Nat.reduceEqDiff, Nat.reduceLT, reduceIte, reduceCtorEq, Nat.reduceBEq, Int.reduceLT, Int.reduceToNat, Int.reducePow, Nat.reduceLeDiff, Int.reduceLE, Nat.reduceMul, Nat.reduceSub, slotsBy, boxesBy, tipsBy, rawAt, nm, AV.ren, AV.renL, AV.under, AV.underL, List.all_nil, List.all_cons, bne_self_eq_false, List.getD_cons_zero, List.getD_cons_succ, List.length_nil, List.length_cons, and_true, true_and, numI, hsub, Nat.zero_add, Int.natCast_one]
    · trivial
    · trivial
    · simp
    · intro j hj _
      have hw2 : IntKind.i64.wrap (((j + 1 : Nat) : Int) + 1) = ((j + 1 + 1 : Nat) : Int) := by rw [wrap_i64 _ (by omega) (by omega)]; omega
      have hb1 := hbn j (by omega)
      have hb2 := hbn (j + 1) (by omega)
      have hsn := numI_snoc f j (subN 1 c) t
      have hlo : (octs (c :: t)).length = t.length + 1 := by simp [octs]
      have h64 : IntKind.i64.wrap (64 * numI f j (subN 1 c) t) = 64 * numI f j (subN 1 c) t := wrap_i64 _ (by omega) (by omega)
      have hd0 : decide (((j + 1 : Nat) : Int) < 1) = true := by simp only [decide_eq_true_eq]; omega
      simp only [hd0, go_sem, Nat.reduceAdd, Nat.reduceEqDiff, Nat.reduceLT, reduceIte, reduceCtorEq, Nat.reduceBEq, Int.reduceLT, Int.reduceToNat, Int.reducePow, Nat.reduceLeDiff, Int.reduceLE, Nat.reduceMul, Nat.reduceSub, hlo]
      by_cases hjt : j < t.length
      · have hx := List.getElem?_eq_getElem hjt
        have hy := ht _ (List.getElem_mem hjt)
        have hgj : (octs (c :: t))[j + 1]? = some [.int .u8 (t[j] : Int)] := by simp [octs, hx]
        have hdg : digit f t j = (t[j] : Int) - 128 := by unfold digit; rw [hx]
        generalize t[j] = y at hgj hdg hy
        have hd1 : decide (((j + 1 : Nat) : Int) < ((t.length + 1 : Nat) : Int)) = true := by simp only [decide_eq_true_eq]; omega
        have hwy : IntKind.i64.wrap (y : Int) = (y : Int) := wrap_i64 _ (by omega) (by omega)
        have hwy2 : IntKind.i64.wrap ((y : Int) - 128) = (y : Int) - 128 := wrap_i64 _ (by omega) (by omega)
        have hfin : IntKind.i64.wrap (64 * numI f j (subN 1 c) t + ((y : Int) - 128)) = numI f (j + 1) (subN 1 c) t := by rw [hsn, hdg, wrap_i64 _ (by omega) (by omega)]
        simp only [hd1, hgj, hwy, hwy2, h64, hfin, hw2, go_sem, Nat.reduceAdd, Nat.reduceEqDiff, Nat.reduceLT, reduceIte, reduceCtorEq, Nat.reduceBEq, Int.reduceLT, Int.reduceToNat, Int.reducePow, Nat.reduceLeDiff, Int.reduceLE, Nat.reduceMul, Nat.reduceSub, Int.natCast_nonneg, Int.toNat_natCast]
        refine ⟨weak_by [] (by simp) rfl ?_ ?_ ?_ ?_, by omega⟩
        · simp only [go_sem, Nat.reduceAdd, Nat.reduceEqDiff, Nat.reduceLT, reduceIte, reduceCtorEq, Nat.reduceBEq, Int.reduceLT, Int.reduceToNat, Int.reducePow, Nat.reduceLeDiff, Int.reduceLE, Nat.reduceMul, Nat.reduceSub, slotsBy, boxesBy, tipsBy, rawAt, nm, AV.ren, AV.renL, AV.under, AV.underL, List.all_nil, List.all_cons, bne_self_eq_false, List.getD_cons_zero, List.getD_cons_succ, List.length_nil, List.length_cons, and_true, true_and]
        · trivial
        · trivial
        · simp
      · have hdg : digit f t j = f := by unfold digit; rw [List.getElem?_eq_none (by omega)]
        have hd1 : decide (((j + 1 : Nat) : Int) < ((t.length + 1 : Nat) : Int)) = false := by simp only [decide_eq_false_iff_not]; omega
        have hfin : IntKind.i64.wrap (64 * numI f j (subN 1 c) t + f) = numI f (j + 1) (subN 1 c) t := by rw [hsn, hdg, wrap_i64 _ (by omega) (by omega)]
        simp only [hd1, h64, hfin, hw2, go_sem, Nat.reduceAdd, Nat.reduceEqDiff, Nat.reduceLT, reduceIte, reduceCtorEq, Nat.reduceBEq, Int.reduceLT, Int.reduceToNat, Int.reducePow, Nat.reduceLeDiff, Int.reduceLE, Nat.reduceMul, Nat.reduceSub]
        refine ⟨weak_by [] (by simp) rfl ?_ ?_ ?_ ?_, by omega⟩
        · simp only [go_sem, Nat.reduceAdd, Nat.reduceEqDiff, Nat.reduceLT, reduceIte, reduceCtorEq, Nat.reduceBEq, Int.reduceLT, Int.reduceToNat, Int.reducePow, Nat.reduceLeDiff, Int.reduceLE, Nat.reduceMul, Nat.reduceSub, slotsBy, boxesBy, tipsBy, rawAt, nm, AV.ren, AV.renL, AV.under, AV.underL, List.all_nil, List.all_cons, bne_self_eq_false, List.getD_cons_zero, List.getD_cons_succ, List.length_nil, List.length_cons, and_true, true_and]
        · trivial
        · trivial
        · simp
    · intro _
      have hd : decide (((0 + 1 : Nat) : Int) < 1) = false := rfl
      simp only [hd, go_sem, Nat.reduceAdd, Nat.reduceEqDiff, Nat.reduceLT, reduceIte, reduceCtorEq, Nat.reduceBEq, Int.reduceLT, Int.reduceToNat, Int.reducePow, Nat.reduceLeDiff, Int.reduceLE, Nat.reduceMul, Nat.reduceSub]
      simp only [Done, resAV, resL, resOne, look_nil, look_cons, Nat.reduceEqDiff, if_true, if_false, reduceIte, ite_true, ite_false, Nat.zero_ne_one, Nat.one_ne_zero, reduceCtorEq, true_or, or_true, true_and, Option.some.injEq, AV.lit.injEq, Value.int.injEq, Value.bool.injEq]
  · have e1 : (((2 : Nat) : Int)) = 2 := rfl
    have hsub : subN 2 c = (c : Int) - 192 := rfl
    have hw := hws 192 (by omega) (by omega)
    simp only [e1, go_sem, Nat.reduceAdd, Nat.reduceEqDiff, Nat.reduceLT, reduceIte, reduceCtorEq, Nat.reduceBEq, Int.reduceLT, Int.reduceToNat, Int.reducePow, Nat.reduceLeDiff, Int.reduceLE, Nat.reduceMul, Nat.reduceSub, Int.reduceBEq, hw]
    rw [← hsub]
    refine loop_to 1 (fun j => ⟨[(0, some (.sl 5 (octs (c :: t)) none)), (1, some (.lit (.int .i64 2))), (2, some (.lit (.int .i64 f))), (7, some (.lit (.int .i64 (numI f j (subN 2 c) t)))), (8, some (.lit (.int .i64 ((j + 1 : Nat) : Int))))], [], [], 0⟩) (fun j => j ≤ 1)
      (weak_by [] (by simp) rfl ?_ ?_ ?_ ?_) (Nat.zero_le _) ?_ ?_
    · simp only [go_sem, Nat.reduceAdd, Nat.reduceEqDiff, Nat.reduceLT, reduceIte, reduceCtorEq, Nat.reduceBEq, Int.reduceLT, Int.reduceToNat, Int.reducePow, Nat.reduceLeDiff, Int.reduceLE, Nat.reduceMul, Nat.reduceSub, slotsBy, boxesBy, tipsBy, rawAt, nm, AV.ren, AV.renL, AV.under, AV.underL, List.all_nil, List.all_cons, bne_self_eq_false, List.getD_cons_zero, List.getD_cons_succ, List.length_nil, List.length_cons, and_true, true_and, numI, Nat.zero_add, Int.natCast_one]
    · trivial
    · trivial
    · simp
    · intro j hj _
      have hw2 : IntKind.i64.wrap (((j + 1 : Nat) : Int) + 1) = ((j + 1 + 1 : Nat) : Int) := by rw [wrap_i64 _ (by omega) (by omega)]; omega
      have hb1 := hbn j (by omega)
      have hb2 := hbn (j + 1) (by omega)
      have hsn := numI_snoc f j (subN 2 c) t
      have hlo : (octs (c :: t)).length = t.length + 1 := by simp [octs]
      have h64 : IntKind.i64.wrap (64 * numI f j (subN 2 c) t) = 64 * numI f j (subN 2 c) t := wrap_i64 _ (by omega) (by omega)
      have hd0 : decide (((j + 1 : Nat) : Int) < 2) = true := by simp only [decide_eq_true_eq]; omega
      simp only [hd0, go_sem, Nat.reduceAdd, Nat.reduceEqDiff, Nat.reduceLT, reduceIte, reduceCtorEq, Nat.reduceBEq, Int.reduceLT, Int.reduceToNat, Int.reducePow, Nat.reduceLeDiff, Int.reduceLE, Nat.reduceMul, Nat.reduceSub, hlo]
      by_cases hjt : j < t.length
      · have hx := List.getElem?_eq_getElem hjt
        have hy := ht _ (List.getElem_mem hjt)
        have hgj : (octs (c :: t))[j + 1]? = some [.int .u8 (t[j] : Int)] := by simp [octs, hx]
        have hdg : digit f t j = (t[j] : Int) - 128 := by unfold digit; rw [hx]
        generalize t[j] = y at hgj hdg hy
        have hd1 : decide (((j + 1 : Nat) : Int) < ((t.length + 1 : Nat) : Int)) = true := by simp only [decide_eq_true_eq]; omega
        have hwy : IntKind.i64.wrap (y : Int) = (y : Int) := wrap_i64 _ (by omega) (by omega)
        have hwy2 : IntKind.i64.wrap ((y : Int) - 128) = (y : Int) - 128 := wrap_i64 _ (by omega) (by omega)
        have hfin : IntKind.i64.wrap (64 * numI f j (subN 2 c) t + ((y : Int) - 128)) = numI f (j + 1) (subN 2 c) t := by rw [hsn, hdg, wrap_i64 _ (by omega) (by omega)]
        simp only [hd1, hgj, hwy, hwy2, h64, hfin, hw2, go_sem, Nat.reduceAdd, Nat.reduceEqDiff, Nat.reduceLT, reduceIte, reduceCtorEq, Nat.reduceBEq, Int.reduceLT, Int.reduceToNat, Int.reducePow, Nat.reduceLeDiff, Int.reduceLE, Nat.reduceMul, Nat.reduceSub, Int.natCast_nonneg, Int.toNat_natCast]
        refine ⟨weak_by [] (by simp) rfl ?_ ?_ ?_ ?_, by omega⟩
        · simp only [go_sem, Nat.reduceAdd, Nat.reduceEqDiff, Nat.reduceLT, reduceIte, reduceCtorEq, Nat.reduceBEq, Int.reduceLT, Int.reduceToNat, Int.reducePow, Nat.reduceLeDiff, Int.reduceLE, Nat.reduceMul, Nat.reduceSub, slotsBy, boxesBy, tipsBy, rawAt, nm, AV.ren, AV.renL, AV.under, AV.underL, List.all_nil, List.all_cons, bne_self_eq_false, List.getD_cons_zero, List.getD_cons_succ, List.length_nil, List.length_cons, and_true, true_and]
        · trivial
        · trivial
        · simp
      · have hdg : digit f t j = f := by unfold digit; rw [List.getElem?_eq_none (by omega)]
        have hd1 : decide (((j + 1 : Nat) : Int) < ((t.length + 1 : Nat) : Int)) = false := by simp only [decide_eq_false_iff_not]; omega
        have hfin : IntKind.i64.wrap (64 * numI f j (subN 2 c) t + f) = numI f (j + 1) (subN 2 c) t := by rw [hsn, hdg, wrap_i64 _ (by omega) (by omega)]
        simp only [hd1, h64, hfin, hw2, go_sem, Nat.reduceAdd, Nat.reduceEqDiff, Nat.reduceLT, reduceIte, reduceCtorEq, Nat.reduceBEq, Int.reduceLT, Int.reduceToNat, Int.reducePow, Nat.reduceLeDiff, Int.reduceLE, Nat.reduceMul, Nat.reduceSub]
        refine ⟨weak_by [] (by simp) rfl ?_ ?_ ?_ ?_, by omega⟩
        · simp only [go_sem, Nat.reduceAdd, Nat.reduceEqDiff, Nat.reduceLT, reduceIte, reduceCtorEq, Nat.reduceBEq, Int.reduceLT, Int.reduceToNat, Int.reducePow, Nat.reduceLeDiff, Int.reduceLE, Nat.reduceMul, Nat.reduceSub, slotsBy, boxesBy, tipsBy, rawAt, nm, AV.ren, AV.renL, AV.under, AV.underL, List.all_nil, List.all_cons, bne_self_eq_false, List.getD_cons_zero, List.getD_cons_succ, List.length_nil, List.length_cons, and_true, true_and]
        · trivial
        · trivial
        · simp
    · intro _
      have hd : decide (((1 + 1 : Nat) : Int) < 2) = false := rfl
      simp only [hd, go_sem, Nat.reduceAdd, Nat.reduceEqDiff, Nat.reduceLT, reduceIte, reduceCtorEq, Nat.reduceBEq, Int.reduceLT, Int.reduceToNat, Int.reducePow, Nat.reduceLeDiff, Int.reduceLE, Nat.reduceMul, Nat.reduceSub]
      simp only [Done, resAV, resL, resOne, look_nil, look_cons, Nat.reduceEqDiff, if_true, if_false, reduceIte, ite_true, ite_false, Nat.zero_ne_one, Nat.one_ne_zero, reduceCtorEq, true_or, or_true, true_and, Option.some.injEq, AV.lit.injEq, Value.int.injEq, Value.bool.injEq]
  · have e1 : (((3 : Nat) : Int)) = 3 := rfl
    have hsub : subN 3 c = (c : Int) - 224 := rfl
    have hw := hws 224 (by omega) (by omega)
    simp only [e1, go_sem, Nat.reduceAdd, Nat.reduceEqDiff, Nat.reduceLT, reduceIte, reduceCtorEq, Nat.reduceBEq, Int.reduceLT, Int.reduceToNat, Int.reducePow, Nat.reduceLeDiff, Int.reduceLE, Nat.reduceMul, Nat.reduceSub, Int.reduceBEq, hw]
    rw [← hsub]
    refine loop_to 2 (fun j => ⟨[(0, some (.sl 5 (octs (c :: t)) none)), (1, some (.lit (.int .i64 3))), (2, some (.lit (.int .i64 f))), (7, some (.lit (.int .i64 (numI f j (subN 3 c) t)))), (8, some (.lit (.int .i64 ((j + 1 : Nat) : Int))))], [], [], 0⟩) (fun j => j ≤ 2)
      (weak_by [] (by simp) rfl ?_ ?_ ?_ ?_) (Nat.zero_le _) ?_ ?_
    · simp only [go_sem, Nat.reduceAdd, Nat.reduceEqDiff, Nat.reduceLT, reduceIte, reduceCtorEq, Nat.reduceBEq, Int.reduceLT, Int.reduceToNat, Int.reducePow, Nat.reduceLeDiff, Int.reduceLE, Nat.reduceMul, Nat.reduceSub, slotsBy, boxesBy, tipsBy, rawAt, nm, AV.ren, AV.renL, AV.under, AV.underL, List.all_nil, List.all_cons, bne_self_eq_false, List.getD_cons_zero, List.getD_cons_succ, List.length_nil, List.length_cons, and_true, true_and, numI, Nat.zero_add, Int.natCast_one]
    · trivial
    · trivial
    · simp
    · intro j hj _
      have hw2 : IntKind.i64.wrap (((j + 1 : Nat) : Int) + 1) = ((j + 1 + 1 : Nat) : Int) := by rw [wrap_i64 _ (by omega) (by omega)]; omega
      have hb1 := hbn j (by omega)
      have hb2 := hbn (j + 1) (by omega)
      have hsn := numI_snoc f j (subN 3 c) t
      have hlo : (octs (c :: t)).length = t.length + 1 := by simp [octs]
      have h64 : IntKind.i64.wrap (64 * numI f j (subN 3 c) t) = 64 * numI f j (subN 3 c) t := wrap_i64 _ (by omega) (by omega)
      have hd0 : decide (((j + 1 : Nat) : Int) < 3) = true := by simp only [decide_eq_true_eq]; omega
      simp only [hd0, go_sem, Nat.reduceAdd, Nat.reduceEqDiff, Nat.reduceLT, reduceIte, reduceCtorEq, Nat.reduceBEq, Int.reduceLT, Int.reduceToNat, Int.reducePow, Nat.reduceLeDiff, Int.reduceLE, Nat.reduceMul, Nat.reduceSub, hlo]
      by_cases hjt : j < t.length
      · have hx := List.getElem?_eq_getElem hjt
        have hy := ht _ (List.getElem_mem hjt)
        have hgj : (octs (c :: t))[j + 1]? = some [.int .u8 (t[j] : Int)] := by simp [octs, hx]
        have hdg : digit f t j = (t[j] : Int) - 128 := by unfold digit; rw [hx]
        generalize t[j] = y at hgj hdg hy
        have hd1 : decide (((j + 1 : Nat) : Int) < ((t.length + 1 : Nat) : Int)) = true := by simp only [decide_eq_true_eq]; omega
        have hwy : IntKind.i64.wrap (y : Int) = (y : Int) := wrap_i64 _ (by omega) (by omega)
        have hwy2 : IntKind.i64.wrap ((y : Int) - 128) = (y : Int) - 128 := wrap_i64 _ (by omega) (by omega)
        have hfin : IntKind.i64.wrap (64 * numI f j (subN 3 c) t + ((y : Int) - 128)) = numI f (j + 1) (subN 3 c) t := by rw [hsn, hdg, wrap_i64 _ (by omega) (by omega)]
        simp only [hd1, hgj, hwy, hwy2, h64, hfin, hw2, go_sem, Nat.reduceAdd, Nat.reduceEqDiff, Nat.reduceLT, reduceIte, reduceCtorEq, Nat.reduceBEq, Int.reduceLT, Int.reduceToNat, Int.reducePow, Nat.reduceLeDiff, Int.reduceLE, Nat.reduceMul, Nat.reduceSub, Int.natCast_nonneg, Int.toNat_natCast]
        refine ⟨weak_by [] (by simp) rfl ?_ ?_ ?_ ?_, by omega⟩
        · simp only [go_sem, Nat.reduceAdd, Nat.reduceEqDiff, Nat.reduceLT, reduceIte, reduceCtorEq, Nat.reduceBEq, Int.reduceLT, Int.reduceToNat, Int.reducePow, Nat.reduceLeDiff, Int.reduceLE, Nat.reduceMul, Nat.reduceSub, slotsBy, boxesBy, tipsBy, rawAt, nm, AV.ren, AV.renL, AV.under, AV.underL, List.all_nil, List.all_cons, bne_self_eq_false, List.getD_cons_zero, List.getD_cons_succ, List.length_nil, List.length_cons, and_true, true_and]
        · trivial
        · trivial
        · simp
      · have hdg : digit f t j = f := by unfold digit; rw [List.getElem?_eq_none (by omega)]
        have hd1 : decide (((j + 1 : Nat) : Int) < ((t.length + 1 : Nat) : Int)) = false := by simp only [decide_eq_false_iff_not]; omega
        have hfin : IntKind.i64.wrap (64 * numI f j (subN 3 c) t + f) = numI f (j + 1) (subN 3 c) t := by rw [hsn, hdg, wrap_i64 _ (by omega) (by omega)]
        simp only [hd1, h64, hfin, hw2, go_sem, Nat.reduceAdd, Nat.reduceEqDiff, Nat.reduceLT, reduceIte, reduceCtorEq, Nat.reduceBEq, Int.reduceLT, Int.reduceToNat, Int.reducePow, Nat.reduceLeDiff, Int.reduceLE, Nat.reduceMul, Nat.reduceSub]
        refine ⟨weak_by [] (by simp) rfl ?_ ?_ ?_ ?_, by omega⟩
        · simp only [go_sem, Nat.reduceAdd, Nat.reduceEqDiff, Nat.reduceLT, reduceIte, reduceCtorEq, Nat.reduceBEq, Int.reduceLT, Int.reduceToNat, Int.reducePow, Nat.reduceLeDiff, Int.reduceLE, Nat.reduceMul, Nat.reduceSub, slotsBy, boxesBy, tipsBy, rawAt, nm, AV.ren, AV.renL, AV.under, AV.underL, List.all_nil, List.all_cons, bne_self_eq_false, List.getD_cons_zero, List.getD_cons_succ, List.length_nil, List.length_cons, and_true, true_and]
        · trivial
        · trivial
        · simp
    · intro _
      have hd : decide (((2 + 1 : Nat) : Int) < 3) = false := rfl
      simp only [hd, go_sem, Nat.reduceAdd, Nat.reduceEqDiff, Nat.reduceLT, reduceIte, reduceCtorEq, Nat.reduceBEq, Int.reduceLT, Int.reduceToNat, Int.reducePow, Nat.reduceLeDiff, Int.reduceLE, Nat.reduceMul, Nat.reduceSub]
      simp only [Done, resAV, resL, resOne, look_nil, look_cons, Nat.reduceEqDiff, if_true, if_false, reduceIte, ite_true, ite_false, Nat.zero_ne_one, Nat.one_ne_zero, reduceCtorEq, true_or, or_true, true_and, Option.some.injEq, AV.lit.injEq, Value.int.injEq, Value.bool.injEq]
  · have e1 : (((4 : Nat) : Int)) = 4 := rfl
    have hsub : subN 4 c = (c : Int) - 240 := rfl
    have hw := hws 240 (by omega) (by omega)
    simp only [e1, go_sem, Nat.reduceAdd, Nat.reduceEqDiff, Nat.reduceLT, reduceIte, reduceCtorEq, Nat.reduceBEq, Int.reduceLT, Int.reduceToNat, Int.reducePow, Nat.reduceLeDiff, Int.reduceLE, Nat.reduceMul, Nat.reduceSub, Int.reduceBEq, hw]
    rw [← hsub]
    refine loop_to 3 (fun j => ⟨[(0, some (.sl 5 (octs (c :: t)) none)), (1, some (.lit (.int .i64 4))), (2, some (.lit (.int .i64 f))), (7, some (.lit (.int .i64 (numI f j (subN 4 c) t)))), (8, some (.lit (.int .i64 ((j + 1 : Nat) : Int))))], [], [], 0⟩) (fun j => j ≤ 3)
      (weak_by [] (by simp) rfl ?_ ?_ ?_ ?_) (Nat.zero_le _) ?_ ?_
    · simp only [go_sem, Nat.reduceAdd, Nat.reduceEqDiff, Nat.reduceLT, reduceIte, reduceCtorEq, Nat.reduceBEq, Int.reduceLT, Int.reduceToNat, Int.reducePow, Nat.reduceLeDiff, Int.reduceLE, Nat.reduceMul, Nat.reduceSub, slotsBy, boxesBy, tipsBy, rawAt, nm, AV.ren, AV.renL, AV.under, AV.underL, List.all_nil, List.all_cons, bne_self_eq_false, List.getD_cons_zero, List.getD_cons_succ, List.length_nil, List.length_cons, and_true, true_and, numI, Nat.zero_add, Int.natCast_one]
    · trivial
    · trivial
    · simp
    · intro j hj _
      have hw2 : IntKind.i64.wrap (((j + 1 : Nat) : Int) + 1) = ((j + 1 + 1 : Nat) : Int) := by rw [wrap_i64 _ (by omega) (by omega)]; omega
      have hb1 := hbn j (by omega)
      have hb2 := hbn (j + 1) (by omega)
      have hsn := numI_snoc f j (subN 4 c) t
      have hlo : (octs (c :: t)).length = t.length + 1 := by simp [octs]
      have h64 : IntKind.i64.wrap (64 * numI f j (subN 4 c) t) = 64 * numI f j (subN 4 c) t := wrap_i64 _ (by omega) (by omega)
      have hd0 : decide (((j + 1 : Nat) : Int) < 4) = true := by simp only [decide_eq_true_eq]; omega
      simp only [hd0, go_sem, Nat.reduceAdd, Nat.reduceEqDiff, Nat.reduceLT, reduceIte, reduceCtorEq, Nat.reduceBEq, Int.reduceLT, Int.reduceToNat, Int.reducePow, Nat.reduceLeDiff, Int.reduceLE, Nat.reduceMul, Nat.reduceSub, hlo]
      by_cases hjt : j < t.length
      · have hx := List.getElem?_eq_getElem hjt
        have hy := ht _ (List.getElem_mem hjt)
        have hgj : (octs (c :: t))[j + 1]? = some [.int .u8 (t[j] : Int)] := by simp [octs, hx]
        have hdg : digit f t j = (t[j] : Int) - 128 := by unfold digit; rw [hx]
        generalize t[j] = y at hgj hdg hy
        have hd1 : decide (((j + 1 : Nat) : Int) < ((t.length + 1 : Nat) : Int)) = true := by simp only [decide_eq_true_eq]; omega
        have hwy : IntKind.i64.wrap (y : Int) = (y : Int) := wrap_i64 _ (by omega) (by omega)
        have hwy2 : IntKind.i64.wrap ((y : Int) - 128) = (y : Int) - 128 := wrap_i64 _ (by omega) (by omega)
        have hfin : IntKind.i64.wrap (64 * numI f j (subN 4 c) t + ((y : Int) - 128)) = numI f (j + 1) (subN 4 c) t := by rw [hsn, hdg, wrap_i64 _ (by omega) (by omega)]
        simp only [hd1, hgj, hwy, hwy2, h64, hfin, hw2, go_sem, Nat.reduceAdd, Nat.reduceEqDiff, Nat.reduceLT, reduceIte, reduceCtorEq, Nat.reduceBEq, Int.reduceLT, Int.reduceToNat, Int.reducePow, Nat.reduceLeDiff, Int.reduceLE, Nat.reduceMul, Nat.reduceSub, Int.natCast_nonneg, Int.toNat_natCast]
        refine ⟨weak_by [] (by simp) rfl ?_ ?_ ?_ ?_, by omega⟩
        · simp only [go_sem, Nat.reduceAdd, Nat.reduceEqDiff, Nat.reduceLT, reduceIte, reduceCtorEq, Nat.reduceBEq, Int.reduceLT, Int.reduceToNat, Int.reducePow, Nat.reduceLeDiff, Int.reduceLE, Nat.reduceMul, Nat.reduceSub, slotsBy, boxesBy, tipsBy, rawAt, nm, AV.ren, AV.renL, AV.under, AV.underL, List.all_nil, List.all_cons, bne_self_eq_false, List.getD_cons_zero, List.getD_cons_succ, List.length_nil, List.length_cons, and_true, true_and]
        · trivial
        · trivial
        · simp
      · have hdg : digit f t j = f := by unfold digit; rw [List.getElem?_eq_none (by omega)]
        have hd1 : decide (((j + 1 : Nat) : Int) < ((t.length + 1 : Nat) : Int)) = false := by simp only [decide_eq_false_iff_not]; omega
        have hfin : IntKind.i64.wrap (64 * numI f j (subN 4 c) t + f) = numI f (j + 1) (subN 4 c) t := by rw [hsn, hdg, wrap_i64 _ (by omega) (by omega)]
        simp only [hd1, h64, hfin, hw2, go_sem, Nat.reduceAdd, Nat.reduceEqDiff, Nat.reduceLT, reduceIte, reduceCtorEq, Nat.reduceBEq, Int.reduceLT, Int.reduceToNat, Int.reducePow, Nat.reduceLeDiff, Int.reduceLE, Nat.reduceMul, Nat.reduceSub]
        refine ⟨weak_by [] (by simp) rfl ?_ ?_ ?_ ?_, by omega⟩
        · simp only [go_sem, Nat.reduceAdd, Nat.reduceEqDiff, Nat.reduceLT, reduceIte, reduceCtorEq, Nat.reduceBEq, Int.reduceLT, Int.reduceToNat, Int.reducePow, Nat.reduceLeDiff, Int.reduceLE, Nat.reduceMul, Nat.reduceSub, slotsBy, boxesBy, tipsBy, rawAt, nm, AV.ren, AV.renL, AV.under, AV.underL, List.all_nil, List.all_cons, bne_self_eq_false, List.getD_cons_zero, List.getD_cons_succ, List.length_nil, List.length_cons, and_true, true_and]
        · trivial
        · trivial
        · simp
    · intro _
      have hd : decide (((3 + 1 : Nat) : Int) < 4) = false := rfl
      simp only [hd, go_sem, Nat.reduceAdd, Nat.reduceEqDiff, Nat.reduceLT, reduceIte, reduceCtorEq, Nat.reduceBEq, Int.reduceLT, Int.reduceToNat, Int.reducePow, Nat.reduceLeDiff, Int.reduceLE, Nat.reduceMul, Nat.reduceSub]
      simp only [Done, resAV, resL, resOne, look_nil, look_cons, Nat.reduceEqDiff, if_true, if_false, reduceIte, ite_true, ite_false, Nat.zero_ne_one, Nat.one_ne_zero, reduceCtorEq, true_or, or_true, true_and, Option.some.injEq, AV.lit.injEq, Value.int.injEq, Value.bool.injEq]
end Go.Proofs.Ytbnaepdeakcljaa
