/-
Which scripts a label has: both answers. Conditions: none.
-/
import Derived.Test.YtocaeclhmkojiaaMix1
set_option linter.unusedSimpArgs false
set_option linter.unusedVariables false
set_option linter.unusedSectionVars false
namespace Go.Proofs.Ytocaeclhmkojiaa
open Go Go.Ab
def a59 : ACode :=
  (.seq (.reg [⟨(.some 4), (.mv (.k (.bool false))), .none⟩]) (.seq (.seq (.reg [⟨(.some 5), (.mv (.k (.int .i64 0))), .none⟩]) (.block 0 (.loop (.seq (.seq (.reg [⟨(.some 6), (.mv (.t 5)), .none⟩,
  ⟨(.some 7), (.mv (.t 0)), .none⟩, ⟨(.some 8), (.len (.t 7)), .none⟩, ⟨(.some 9), (.bin .lss (.t 6) (.t 8)), .none⟩]) (.cond (.t 9) .skip (.exit 0))) (.seq (.block 1 (.seq (.reg [⟨(.some 12), (.mv (.t
  0)), .none⟩, ⟨(.some 13), (.mv (.t 5)), .none⟩, ⟨(.some 14), (.ia 21 (.t 12) (.t 13)), .none⟩, ⟨(.some 15), (.ld .none (.t 14)), .none⟩, ⟨(.some 16), (.call (.f 66) [(.t 15)]), .none⟩, ⟨(.some 17),
  (.fld 4 .none (.t 16)), .none⟩, ⟨(.some 18), (.mv (.t 1)), .none⟩, ⟨(.some 19), (.bin .eql (.t 17) (.t 18)), .none⟩]) (.cond (.t 19) (.seq (.reg [⟨(.some 4), (.mv (.k (.bool true))), .none⟩]) .ret)
  .skip))) (.reg [⟨(.some 10), (.mv (.t 5)), .none⟩, ⟨(.some 11), (.bin .add (.t 10) (.k (.int .i64 1))), .none⟩, ⟨(.some 5), (.mv (.t 11)), .none⟩])))))) (.seq (.reg [⟨(.some 4), (.mv (.k (.bool
  false))), .none⟩]) .ret)))
theorem c59 : Try.f59.body.bind (cCode Try.prog 20) = some a59 := by kernel_rfl
theorem r59 : Try.f59.results.toList = [(.tmp 4)] := by kernel_rfl
theorem n59 : Try.f59.ntmps = 20 := by kernel_rfl
theorem e59 : Enters Try.prog 59 := enters_of Try.func59 (by kernel_rfl) (by kernel_rfl)
def a58 : ACode :=
  (.seq (.reg [⟨(.some 2), (.alc 66 [(.int .i64 0), (.int .i64 0), (.int .i64 0), (.int .i64 0), (.int .i64 0), (.int .i64 0), (.int .i64 0), (.int .i64 0), (.int .i64 0), (.int .i64 0), (.int .i64 0),
  (.int .i64 0)]), .none⟩]) (.seq (.reg [⟨(.some 3), (.alc 66 [(.int .i64 0), (.int .i64 0), (.int .i64 0), (.int .i64 0), (.int .i64 0), (.int .i64 0), (.int .i64 0), (.int .i64 0), (.int .i64 0),
  (.int .i64 0), (.int .i64 0), (.int .i64 0)]), .none⟩]) (.seq (.seq (.reg [⟨(.some 6), (.mv (.t 0)), .none⟩, ⟨(.some 7), (.len (.t 6)), .none⟩, ⟨(.some 8), (.mv (.k (.int .i64 0))), .none⟩]) (.block 0
  (.loop (.seq (.reg [⟨(.some 9), (.bin .lss (.t 8) (.t 7)), .none⟩]) (.seq (.cond (.t 9) .skip (.exit 0)) (.seq (.block 1 (.seq (.reg [⟨(.some 10), (.ia 21 (.t 6) (.t 8)), .none⟩, ⟨(.some 11), (.ld
  .none (.t 10)), .none⟩, ⟨(.some 5), (.mv (.t 11)), .none⟩]) (.reg [⟨(.some 12), (.mv (.t 5)), .none⟩, ⟨(.some 13), (.call (.f 22) [(.t 12)]), .none⟩, ⟨(.some 14), (.fld 4 .none (.t 13)), .none⟩,
  ⟨(.some 15), (.iaA 12 1 (.t 3) (.t 14)), .none⟩, ⟨.none, (.st 1 (.t 15) (.k (.int .i64 1))), .none⟩]))) (.reg [⟨(.some 16), (.bin .add (.t 8) (.k (.int .i64 1))), .none⟩, ⟨(.some 8), (.mv (.t 16)),
  .none⟩]))))))) (.seq (.reg [⟨(.some 17), (.iaA 12 1 (.t 3) (.k (.int .u8 0))), .none⟩, ⟨.none, (.st 1 (.t 17) (.k (.int .i64 0))), .none⟩, ⟨(.some 18), (.iaA 12 1 (.t 3) (.k (.int .u8 1))), .none⟩,
  ⟨.none, (.st 1 (.t 18) (.k (.int .i64 0))), .none⟩]) (.seq (.reg [⟨(.some 19), (.ld (.some 12) (.t 3)), .none⟩, ⟨.none, (.st 12 (.t 2) (.t 19)), .none⟩]) .ret)))))
theorem c58 : Try.f58.body.bind (cCode Try.prog 20) = some a58 := by kernel_rfl
theorem r58 : Try.f58.results.toList = [(.cell 2 66)] := by kernel_rfl
theorem n58 : Try.f58.ntmps = 20 := by kernel_rfl
theorem e58 : Enters Try.prog 58 := enters_of Try.func58 (by kernel_rfl) (by kernel_rfl)

def scriptOf (r : Int) : Nat := (rowAt r).script.toNat

def fewScripts (x : Row) : Bool := decide (0 ≤ x.script) && decide (x.script ≤ 11)
theorem few_all (r : Int) : (partOf r).all fewScripts = true := partOf_cases (p := fun l => l.all fewScripts = true) (by kernel_rfl) (by kernel_rfl) (by kernel_rfl) (by kernel_rfl) (by kernel_rfl) r
theorem script_in (r : Int) : 0 ≤ (rowAt r).script ∧ (rowAt r).script ≤ 11 := by
  unfold rowAt
  split
  · rename_i x hx
    split
    · simp
    · have := List.all_eq_true.1 (few_all r) x (List.mem_of_getElem? hx)
      simpa [fewScripts] using this
  · simp
theorem script_eq (r : Int) : (rowAt r).script = (scriptOf r : Int) := by have := script_in r; simp only [scriptOf]; omega
theorem script_lt (r : Int) : scriptOf r < 12 := by have := script_in r; simp only [scriptOf]; omega

/-- Whether a label has a script. -/
def hasScript (l : List Int) (s : Int) : Bool := l.any fun r => decide ((rowAt r).script = s)

set_option maxRecDepth 10000 in
theorem has_pure (l : List Int) (s : Int) (hl : l.length ≤ 4611686018427387904) (h32 : I32 l) : Pure Try.prog 59 [.sl 21 (runes l) none, .lit (.int .u8 s)] [] (.lit (.bool (hasScript l s))) := by
  refine pure0 Try.func59 c59 n59 e59 r59 (by simp) rfl ?_
  simp only [a59, astart, argSlots, go_sem, Nat.reduceAdd, Nat.reduceEqDiff, Nat.reduceLT, reduceIte, reduceCtorEq, Nat.reduceBEq, Int.reduceLT, Int.reduceToNat, Int.reducePow, Nat.reduceLeDiff, Int.reduceLE, Nat.reduceMul, Nat.reduceSub, runes_length]
  refine loop_to l.length (fun i => ⟨[(0, some (.sl 21 (runes l) none)), (1, some (.lit (.int .u8 s))), (5, some (.lit (.int .i64 i)))], [], [], 0⟩)
    (fun i => ∀ j : Nat, j < i → ∀ r, l[j]? = some r → (rowAt r).script ≠ s) (weak_by [] List.nodup_nil rfl ?_ trivial trivial (by simp)) (fun j hj => by omega) ?_ ?_
  · simp only [go_sem, Nat.reduceAdd, Nat.reduceEqDiff, Nat.reduceLT, reduceIte, reduceCtorEq, Nat.reduceBEq, Int.reduceLT, Int.reduceToNat, Int.reducePow, Nat.reduceLeDiff, Int.reduceLE, Nat.reduceMul, Nat.reduceSub, slotsBy, boxesBy, tipsBy, rawAt, nm, AV.ren, AV.renL, AV.under, AV.underL, List.all_nil, List.all_cons, bne_self_eq_false, List.getD_cons_zero, List.getD_cons_succ, List.length_nil, List.length_cons, and_true, true_and, Int.natCast_zero]
  · intro i hi hp
    have hlt : (decide ((i : Int) < (l.length : Int))) = true := by simp only [decide_eq_true_eq]; omega
    have hr := h32 _ (List.getElem_mem hi)
    simp only [go_sem, Nat.reduceAdd, Nat.reduceEqDiff, Nat.reduceLT, reduceIte, reduceCtorEq, Nat.reduceBEq, Int.reduceLT, Int.reduceToNat, Int.reducePow, Nat.reduceLeDiff, Int.reduceLE, Nat.reduceMul, Nat.reduceSub, hlt, Int.natCast_nonneg, Int.toNat_natCast, runes_get l i hi, runes_length]
    refine callGo_pure (refOf_pure _ hr) (by rfl) ?_
    simp only [go_sem, Nat.reduceAdd, Nat.reduceEqDiff, Nat.reduceLT, reduceIte, reduceCtorEq, Nat.reduceBEq, Int.reduceLT, Int.reduceToNat, Int.reducePow, Nat.reduceLeDiff, Int.reduceLE, Nat.reduceMul, Nat.reduceSub, Row.prop]
    by_cases h1 : (rowAt l[i]).script = s
    · have hb : ((rowAt l[i]).script == s) = true := by simp [h1]
      simp only [hb, go_sem, Nat.reduceAdd, Nat.reduceEqDiff, Nat.reduceLT, reduceIte, reduceCtorEq, Nat.reduceBEq, Int.reduceLT, Int.reduceToNat, Int.reducePow, Nat.reduceLeDiff, Int.reduceLE, Nat.reduceMul, Nat.reduceSub]
      simp only [Done, resAV, resL, resOne, look_nil, look_cons, Nat.reduceEqDiff, if_true, if_false, reduceIte, ite_true, ite_false, Nat.zero_ne_one, Nat.one_ne_zero, reduceCtorEq, true_or, or_true, true_and, Option.some.injEq, AV.lit.injEq, Value.int.injEq, Value.bool.injEq]
      exact (List.any_eq_true.2 ⟨_, List.getElem_mem hi, by simpa using h1⟩).symm
    · have hb : ((rowAt l[i]).script == s) = false := by simp [h1]
      simp only [hb, go_sem, Nat.reduceAdd, Nat.reduceEqDiff, Nat.reduceLT, reduceIte, reduceCtorEq, Nat.reduceBEq, Int.reduceLT, Int.reduceToNat, Int.reducePow, Nat.reduceLeDiff, Int.reduceLE, Nat.reduceMul, Nat.reduceSub]
      simp (disch := omega) only [wrap_i64]
      refine ⟨weak_by [] List.nodup_nil rfl ?_ trivial trivial (by simp), ?_⟩
      · simp only [go_sem, Nat.reduceAdd, Nat.reduceEqDiff, Nat.reduceLT, reduceIte, reduceCtorEq, Nat.reduceBEq, Int.reduceLT, Int.reduceToNat, Int.reducePow, Nat.reduceLeDiff, Int.reduceLE, Nat.reduceMul, Nat.reduceSub, slotsBy, boxesBy, tipsBy, rawAt, nm, AV.ren, AV.renL, AV.under, AV.underL, List.all_nil, List.all_cons, bne_self_eq_false, List.getD_cons_zero, List.getD_cons_succ, List.length_nil, List.length_cons, and_true, true_and, Int.natCast_add, Int.natCast_one]
      · intro j hj r hjr
        rcases Nat.lt_succ_iff_lt_or_eq.1 hj with hj | hj
        · exact hp j hj r hjr
        · subst hj
          rw [List.getElem?_eq_getElem hi, Option.some.injEq] at hjr
          subst hjr; exact h1
  · intro hp
    have hlt : (decide ((l.length : Int) < (l.length : Int))) = false := by simp
    simp only [go_sem, Nat.reduceAdd, Nat.reduceEqDiff, Nat.reduceLT, reduceIte, reduceCtorEq, Nat.reduceBEq, Int.reduceLT, Int.reduceToNat, Int.reducePow, Nat.reduceLeDiff, Int.reduceLE, Nat.reduceMul, Nat.reduceSub, hlt, runes_length]
    simp only [Done, resAV, resL, resOne, look_nil, look_cons, Nat.reduceEqDiff, if_true, if_false, reduceIte, ite_true, ite_false, Nat.zero_ne_one, Nat.one_ne_zero, reduceCtorEq, true_or, or_true, true_and, Option.some.injEq, AV.lit.injEq, Value.int.injEq, Value.bool.injEq]
    symm
    simp only [hasScript, List.any_eq_false, decide_eq_true_eq]
    intro r hr
    obtain ⟨j, hj, hjr⟩ := List.getElem_of_mem hr
    exact hp j hj r (by rw [List.getElem?_eq_getElem hj, hjr])

/-- A row of counts. -/
def nums (cs : List Int) : List AV := cs.map fun n => .lit (.int .i64 n)

/-- Those of the scripts that a label has. -/
def marked (cs : List Int) : List Int → List Int
  | [] => cs
  | r :: l => marked (cs.set (scriptOf r) 1) l
def counts (l : List Int) : List Int := ((marked (List.replicate 12 0) l).set 0 0).set 1 0

theorem marked_length (cs l : List Int) : (marked cs l).length = cs.length := by
  induction l generalizing cs with
  | nil => rfl
  | cons r l ih => simp [marked, ih]
theorem marked_take {cs l : List Int} {i : Nat} (hi : i < l.length) : marked cs (l.take (i + 1)) = (marked cs (l.take i)).set (scriptOf l[i]) 1 := by
  induction l generalizing cs i with
  | nil => simp at hi
  | cons r l ih =>
    cases i with
    | zero => simp [marked]
    | succ i => simp only [List.take_succ_cons, marked]; exact ih (by simpa using hi)

theorem nums_set (cs : List Int) (k : Nat) (v : Int) (h : k < cs.length) : (nums cs).take k ++ [AV.lit (.int .i64 v)] ++ (nums cs).drop (k + 1) = nums (cs.set k v) := by
  simp only [nums, List.map_set]
  rw [List.set_eq_take_append_cons_drop]
  simp [h]

theorem nums_length (cs : List Int) : (nums cs).length = cs.length := by simp [nums]
theorem nums_unOb (cs : List Int) : unOb (nums cs) = some (nums cs) := by
  cases cs with
  | nil => rfl
  | cons c cs => simp only [nums, List.map_cons, unOb_lit]
attribute [go_sem] nums_unOb
theorem nums_one (cs : List Int) : allOne (nums cs) = true := by
  induction cs with
  | nil => rfl
  | cons c cs ih => simpa [nums, allOne, AV.one, Value.oneCell'] using ih
theorem counts_info : (Try.prog.info? 66).map (·.size) = some 12 := by kernel_rfl
theorem counts_agg : aggB Try.prog 66 = true := by kernel_rfl
theorem nums_ren (f : Nat → Nat) (cs : List Int) : AV.renL f (nums cs) = nums cs := by
  induction cs with
  | nil => rfl
  | cons c cs ih => simpa [nums, AV.renL, AV.ren] using ih
theorem nums_under (n : Nat) (cs : List Int) : AV.underL n (nums cs) = true := by
  induction cs with
  | nil => rfl
  | cons c cs ih => simpa [nums, AV.underL, AV.under] using ih

theorem twelve {X : List Int} (h : X.length = 12) : ∃ a b c d e f g h i j k l, X = [a, b, c, d, e, f, g, h, i, j, k, l] := by
  match X, h with
  | [a, b, c, d, e, f, g, h, i, j, k, l], _ => exact ⟨a, b, c, d, e, f, g, h, i, j, k, l, rfl⟩
def zeros : List Int := List.replicate 12 0
theorem zeros_nums : [AV.lit (.int .i64 0), .lit (.int .i64 0), .lit (.int .i64 0), .lit (.int .i64 0), .lit (.int .i64 0), .lit (.int .i64 0), .lit (.int .i64 0), .lit (.int .i64 0), .lit (.int .i64 0), .lit (.int .i64 0), .lit (.int .i64 0), .lit (.int .i64 0)] = nums zeros := rfl

set_option maxRecDepth 10000 in
theorem counted_pure (l : List Int) (hl : l.length ≤ 4611686018427387904) : Pure Try.prog 58 [.sl 21 (runes l) none] [] (.ag (nums (counts l))) := by
  refine pure0 Try.func58 c58 n58 e58 r58 (by simp) (by simp only [AV.under, nums_under]) ?_
  simp only [a58, astart, argSlots, go_sem, Nat.reduceAdd, Nat.reduceEqDiff, Nat.reduceLT, reduceIte, reduceCtorEq, Nat.reduceBEq, Int.reduceLT, Int.reduceToNat, Int.reducePow, Nat.reduceLeDiff, Int.reduceLE, Nat.reduceMul, Nat.reduceSub, runes_length, AV.one, Value.oneCell', allOne]
  refine loop_to l.length (fun i => ⟨[(2, some (.bp 0 0)), (3, some (.bp 1 0)), (6, some (.sl 21 (runes l) none)), (7, some (.lit (.int .i64 l.length))), (8, some (.lit (.int .i64 i)))], [(1, nums (marked zeros (l.take i))), (0, nums zeros)], [], 2⟩)
    (fun _ => True) (weak_by [0, 1] (by simp) rfl ?_ ?_ trivial (by simp)) trivial ?_ ?_
  · simp only [go_sem, Nat.reduceAdd, Nat.reduceEqDiff, Nat.reduceLT, reduceIte, reduceCtorEq, Nat.reduceBEq, Int.reduceLT, Int.reduceToNat, Int.reducePow, Nat.reduceLeDiff, Int.reduceLE, Nat.reduceMul, Nat.reduceSub, slotsBy, boxesBy, tipsBy, rawAt, nm, AV.ren, AV.renL, AV.under, AV.underL, List.all_nil, List.all_cons, bne_self_eq_false, List.getD_cons_zero, List.getD_cons_succ, List.length_nil, List.length_cons, and_true, true_and, Int.natCast_zero]
  · simp only [go_sem, Nat.reduceAdd, Nat.reduceEqDiff, Nat.reduceLT, reduceIte, reduceCtorEq, Nat.reduceBEq, Int.reduceLT, Int.reduceToNat, Int.reducePow, Nat.reduceLeDiff, Int.reduceLE, Nat.reduceMul, Nat.reduceSub, slotsBy, boxesBy, tipsBy, rawAt, nm, AV.ren, AV.renL, AV.under, AV.underL, List.all_nil, List.all_cons, bne_self_eq_false, List.getD_cons_zero, List.getD_cons_succ, List.length_nil, List.length_cons, and_true, true_and, zeros_nums, nums_ren, nums_under, marked]
    simp
  · intro i hi _
    have hlt : (decide ((i : Int) < (l.length : Int))) = true := by simp only [decide_eq_true_eq]; omega
    simp only [go_sem, Nat.reduceAdd, Nat.reduceEqDiff, Nat.reduceLT, reduceIte, reduceCtorEq, Nat.reduceBEq, Int.reduceLT, Int.reduceToNat, Int.reducePow, Nat.reduceLeDiff, Int.reduceLE, Nat.reduceMul, Nat.reduceSub, hlt, Int.natCast_nonneg, Int.toNat_natCast, runes_get l i hi, runes_length]
    refine callGo_pure (of_pure _) (by rfl) ?_
    have hs := script_lt l[i]
    simp only [go_sem, Nat.reduceAdd, Nat.reduceEqDiff, Nat.reduceLT, reduceIte, reduceCtorEq, Nat.reduceBEq, Int.reduceLT, Int.reduceToNat, Int.reducePow, Nat.reduceLeDiff, Int.reduceLE, Nat.reduceMul, Nat.reduceSub, Row.prop, script_eq, Int.natCast_nonneg, Int.toNat_natCast, hs, Nat.mul_one]
    have hz : zeros.length = 12 := rfl
    refine ⟨by rw [nums_length, marked_length]; omega, ?_⟩
    simp (disch := omega) only [wrap_i64]
    rw [nums_set _ _ _ (by rw [marked_length]; omega), ← marked_take hi]
    refine weak_by [0, 1] (by simp) rfl ?_ ?_ trivial (by simp)
    · simp only [go_sem, Nat.reduceAdd, Nat.reduceEqDiff, Nat.reduceLT, reduceIte, reduceCtorEq, Nat.reduceBEq, Int.reduceLT, Int.reduceToNat, Int.reducePow, Nat.reduceLeDiff, Int.reduceLE, Nat.reduceMul, Nat.reduceSub, slotsBy, boxesBy, tipsBy, rawAt, nm, AV.ren, AV.renL, AV.under, AV.underL, List.all_nil, List.all_cons, bne_self_eq_false, List.getD_cons_zero, List.getD_cons_succ, List.length_nil, List.length_cons, and_true, true_and, Int.natCast_add, Int.natCast_one]
    · simp only [go_sem, Nat.reduceAdd, Nat.reduceEqDiff, Nat.reduceLT, reduceIte, reduceCtorEq, Nat.reduceBEq, Int.reduceLT, Int.reduceToNat, Int.reducePow, Nat.reduceLeDiff, Int.reduceLE, Nat.reduceMul, Nat.reduceSub, slotsBy, boxesBy, tipsBy, rawAt, nm, AV.ren, AV.renL, AV.under, AV.underL, List.all_nil, List.all_cons, bne_self_eq_false, List.getD_cons_zero, List.getD_cons_succ, List.length_nil, List.length_cons, and_true, true_and, nums_ren, nums_under]
      simp
  · intro _
    have hlt : (decide ((l.length : Int) < (l.length : Int))) = false := by simp
    have hlen : (marked zeros l).length = 12 := by rw [marked_length]; rfl
    have hc : counts l = ((marked zeros l).set 0 0).set 1 0 := rfl
    rw [List.take_length]
    generalize marked zeros l = X at hlen hc
    obtain ⟨x0, x1, x2, x3, x4, x5, x6, x7, x8, x9, x10, x11, rfl⟩ := twelve hlen
    rw [hc]
    simp only [go_sem, Nat.reduceAdd, Nat.reduceEqDiff, Nat.reduceLT, reduceIte, reduceCtorEq, Nat.reduceBEq, Int.reduceLT, Int.reduceToNat, Int.reducePow, Nat.reduceLeDiff, Int.reduceLE, Nat.reduceMul, Nat.reduceSub, hlt, nums, zeros, Int.reduceLE, Nat.reduceMul, List.replicate_succ, List.replicate_zero]
    exact ⟨.inr rfl, resAV_one (resOne_ag (id := 0) counts_info counts_agg (by simp only [go_sem, Nat.reduceAdd, Nat.reduceEqDiff, Nat.reduceLT, reduceIte, reduceCtorEq, Nat.reduceBEq, Int.reduceLT, Int.reduceToNat, Int.reducePow, Nat.reduceLeDiff, Int.reduceLE, Nat.reduceMul, Nat.reduceSub]) (by simp only [go_sem, Nat.reduceAdd, Nat.reduceEqDiff, Nat.reduceLT, reduceIte, reduceCtorEq, Nat.reduceBEq, Int.reduceLT, Int.reduceToNat, Int.reducePow, Nat.reduceLeDiff, Int.reduceLE, Nat.reduceMul, Nat.reduceSub]) rfl)⟩
end Go.Proofs.Ytocaeclhmkojiaa
