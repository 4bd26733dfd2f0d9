/-
Whether digits are of one system: both answers. Conditions: none.
-/
import Derived.Test.YtocaeclhmkojiaaUcd4
set_option linter.unusedSimpArgs false
set_option linter.unusedVariables false
set_option linter.unusedSectionVars false
namespace Go.Proofs.Ytocaeclhmkojiaa
open Go Go.Ab
def a29 : ACode :=
  (.seq (.reg [⟨(.some 2), (.mv (.k (.bool false))), .none⟩]) (.seq (.reg [⟨(.some 3), (.mv (.k (.int .u8 0))), .none⟩]) (.seq (.seq (.reg [⟨(.some 7), (.mv (.t 0)), .none⟩, ⟨(.some 8), (.len (.t 7)),
  .none⟩, ⟨(.some 9), (.mv (.k (.int .i64 0))), .none⟩]) (.block 0 (.loop (.seq (.reg [⟨(.some 10), (.bin .lss (.t 9) (.t 8)), .none⟩]) (.seq (.cond (.t 10) .skip (.exit 0)) (.seq (.block 1 (.seq (.reg
  [⟨(.some 11), (.ia 21 (.t 7) (.t 9)), .none⟩, ⟨(.some 12), (.ld .none (.t 11)), .none⟩, ⟨(.some 5), (.mv (.t 12)), .none⟩]) (.seq (.reg [⟨(.some 13), (.mv (.t 5)), .none⟩, ⟨(.some 14), (.call (.f 22)
  [(.t 13)]), .none⟩, ⟨(.some 15), (.fld 5 .none (.t 14)), .none⟩, ⟨(.some 6), (.mv (.t 15)), .none⟩]) (.block 2 (.seq (.reg [⟨(.some 18), (.mv (.t 6)), .none⟩, ⟨(.some 19), (.bin .eql (.t 18) (.k (.int
  .u8 0))), .none⟩, ⟨(.some 20), (.mv (.t 19)), .none⟩, ⟨(.some 21), (.mv (.t 6)), (.some (20, false))⟩, ⟨(.some 22), (.mv (.t 3)), (.some (20, false))⟩, ⟨(.some 23), (.bin .eql (.t 21) (.t 22)), (.some
  (20, false))⟩, ⟨(.some 24), (.pick (.t 20) (.k (.bool true)) (.t 23)), .none⟩, ⟨(.some 17), (.mv (.t 24)), .none⟩]) (.cond (.t 17) .skip (.seq (.reg [⟨(.some 26), (.mv (.t 3)), .none⟩, ⟨(.some 27),
  (.bin .neq (.t 26) (.k (.int .u8 0))), .none⟩, ⟨(.some 25), (.mv (.t 27)), .none⟩]) (.cond (.t 25) (.seq (.reg [⟨(.some 2), (.mv (.k (.bool false))), .none⟩]) .ret) (.reg [⟨(.some 16), (.mv (.t 6)),
  .none⟩, ⟨(.some 3), (.mv (.t 16)), .none⟩]))))))))) (.reg [⟨(.some 28), (.bin .add (.t 9) (.k (.int .i64 1))), .none⟩, ⟨(.some 9), (.mv (.t 28)), .none⟩]))))))) (.seq (.reg [⟨(.some 2), (.mv (.k
  (.bool true))), .none⟩]) .ret))))
theorem c29 : Try.f29.body.bind (cCode Try.prog 29) = some a29 := by kernel_rfl
theorem r29 : Try.f29.results.toList = [(.tmp 2)] := by kernel_rfl
theorem n29 : Try.f29.ntmps = 29 := by kernel_rfl
theorem e29 : Enters Try.prog 29 := enters_of Try.func29 (by kernel_rfl) (by kernel_rfl)
def a30 : ACode :=
  (.seq (.reg [⟨(.some 2), (.mv (.k (.bool false))), .none⟩]) (.seq (.reg [⟨(.some 3), (.mv (.k (.int .u8 0))), .none⟩]) (.seq (.seq (.reg [⟨(.some 4), (.mv (.k (.int .i64 0))), .none⟩]) (.block 0
  (.loop (.seq (.seq (.reg [⟨(.some 6), (.mv (.t 4)), .none⟩, ⟨(.some 7), (.mv (.t 0)), .none⟩, ⟨(.some 8), (.len (.t 7)), .none⟩, ⟨(.some 9), (.bin .lss (.t 6) (.t 8)), .none⟩]) (.cond (.t 9) .skip
  (.exit 0))) (.seq (.block 1 (.seq (.reg [⟨(.some 12), (.mv (.t 0)), .none⟩, ⟨(.some 13), (.mv (.t 4)), .none⟩, ⟨(.some 14), (.ia 21 (.t 12) (.t 13)), .none⟩, ⟨(.some 15), (.ld .none (.t 14)), .none⟩,
  ⟨(.some 16), (.call (.f 66) [(.t 15)]), .none⟩, ⟨(.some 17), (.fld 5 .none (.t 16)), .none⟩, ⟨(.some 5), (.mv (.t 17)), .none⟩]) (.seq (.seq (.reg [⟨(.some 18), (.mv (.t 5)), .none⟩, ⟨(.some 19),
  (.bin .neq (.t 18) (.k (.int .u8 0))), .none⟩, ⟨(.some 20), (.mv (.t 19)), .none⟩, ⟨(.some 21), (.mv (.t 3)), (.some (20, true))⟩, ⟨(.some 22), (.bin .neq (.t 21) (.k (.int .u8 0))), (.some (20,
  true))⟩, ⟨(.some 23), (.pick (.t 20) (.t 22) (.k (.bool false))), .none⟩, ⟨(.some 24), (.mv (.t 23)), .none⟩, ⟨(.some 25), (.mv (.t 5)), (.some (24, true))⟩, ⟨(.some 26), (.mv (.t 3)), (.some (24,
  true))⟩, ⟨(.some 27), (.bin .neq (.t 25) (.t 26)), (.some (24, true))⟩, ⟨(.some 28), (.pick (.t 24) (.t 27) (.k (.bool false))), .none⟩]) (.cond (.t 28) (.seq (.reg [⟨(.some 2), (.mv (.k (.bool
  false))), .none⟩]) .ret) .skip)) (.seq (.reg [⟨(.some 29), (.mv (.t 5)), .none⟩, ⟨(.some 30), (.bin .neq (.t 29) (.k (.int .u8 0))), .none⟩]) (.cond (.t 30) (.reg [⟨(.some 31), (.mv (.t 5)), .none⟩,
  ⟨(.some 3), (.mv (.t 31)), .none⟩]) .skip))))) (.reg [⟨(.some 10), (.mv (.t 4)), .none⟩, ⟨(.some 11), (.bin .add (.t 10) (.k (.int .i64 1))), .none⟩, ⟨(.some 4), (.mv (.t 11)), .none⟩])))))) (.seq
  (.reg [⟨(.some 2), (.mv (.k (.bool true))), .none⟩]) .ret))))
theorem c30 : Try.f30.body.bind (cCode Try.prog 32) = some a30 := by kernel_rfl
theorem r30 : Try.f30.results.toList = [(.tmp 2)] := by kernel_rfl
theorem n30 : Try.f30.ntmps = 32 := by kernel_rfl
theorem e30 : Enters Try.prog 30 := enters_of Try.func30 (by kernel_rfl) (by kernel_rfl)

/-- A label as cells. -/
def runes (l : List Int) : List (List Value) := l.map fun n => [.int .i32 n]
theorem runes_length (l : List Int) : (runes l).length = l.length := by simp [runes]
theorem runes_get (l : List Int) (i : Nat) (h : i < l.length) : (runes l)[i]? = some [.int .i32 l[i]] := by simp [runes, h]

/-- The system so far; none: two have been seen. -/
def system (one : Int) : List Int → Option Int
  | [] => some one
  | r :: l => if (rowAt r).digits = 0 ∨ (rowAt r).digits = one then system one l else if one ≠ 0 then none else system (rowAt r).digits l

theorem system_take {one : Int} {l : List Int} {i : Nat} (hi : i < l.length) {one' : Int} (h : system one (l.take i) = some one') :
    system one (l.take (i + 1)) = if (rowAt l[i]).digits = 0 ∨ (rowAt l[i]).digits = one' then some one' else if one' ≠ 0 then none else some (rowAt l[i]).digits := by
  induction l generalizing one i with
  | nil => simp at hi
  | cons r l ih =>
    cases i with
    | zero => simp only [List.take_zero, system, Option.some.injEq] at h; subst h; simp [system]
    | succ i =>
      simp only [List.take_succ_cons, system] at h ⊢
      split at h
      · rename_i hc; rw [if_pos hc]; exact ih (by simpa using hi) h
      · rename_i hc
        rw [if_neg hc]
        split at h
        · cases h
        · rename_i h0; rw [if_neg h0]; exact ih (by simpa using hi) h

theorem system_bad {one : Int} {l : List Int} {i : Nat} (h : system one (l.take i) = none) : system one l = none := by
  induction l generalizing one i with
  | nil => simpa using h
  | cons r l ih =>
    cases i with
    | zero => simp [system] at h
    | succ i =>
      simp only [List.take_succ_cons, system] at h ⊢
      split at h
      · rename_i hc; rw [if_pos hc]; exact ih h
      · rename_i hc
        rw [if_neg hc]
        split at h
        · rename_i h0; rw [if_pos h0]
        · rename_i h0; rw [if_neg h0]; exact ih h

def oneSystem (l : List Int) : Bool := (system 0 l).isSome

set_option maxRecDepth 10000 in
theorem digits_pure (l : List Int) (hl : l.length ≤ 4611686018427387904) : Pure Try.prog 29 [.sl 21 (runes l) none] [] (.lit (.bool (oneSystem l))) := by
  refine pure0 Try.func29 c29 n29 e29 r29 (by simp) rfl ?_
  simp only [a29, astart, argSlots, go_sem, Nat.reduceAdd, Nat.reduceEqDiff, Nat.reduceLT, reduceIte, reduceCtorEq, Nat.reduceBEq, Int.reduceLT, Int.reduceToNat, Int.reducePow, Nat.reduceLeDiff, Int.reduceLE, Nat.reduceMul, Nat.reduceSub, runes_length]
  refine loop_to l.length (fun i => ⟨[(3, some (.lit (.int .u8 ((system 0 (l.take i)).getD 0)))), (7, some (.sl 21 (runes l) none)), (8, some (.lit (.int .i64 l.length))), (9, some (.lit (.int .i64 i)))], [], [], 0⟩)
    (fun i => (system 0 (l.take i)).isSome = true) (weak_by [] List.nodup_nil rfl ?_ ?_ ?_ ?_) (by simp [system]) ?_ ?_
  · simp only [go_sem, Nat.reduceAdd, Nat.reduceEqDiff, Nat.reduceLT, reduceIte, reduceCtorEq, Nat.reduceBEq, Int.reduceLT, Int.reduceToNat, Int.reducePow, Nat.reduceLeDiff, Int.reduceLE, Nat.reduceMul, Nat.reduceSub, slotsBy, boxesBy, tipsBy, rawAt, nm, AV.ren, AV.renL, AV.under, AV.underL, List.all_nil, List.all_cons, bne_self_eq_false, List.getD_cons_zero, List.getD_cons_succ, List.length_nil, List.length_cons, and_true, true_and, Int.natCast_zero, system, Option.getD_some]
  · trivial
  · trivial
  · simp
  · intro i hi hp
    obtain ⟨one, hone⟩ := Option.isSome_iff_exists.1 hp
    have hlt : (decide ((i : Int) < (l.length : Int))) = true := by simp only [decide_eq_true_eq]; omega
    have hstep := system_take hi hone
    simp only [go_sem, Nat.reduceAdd, Nat.reduceEqDiff, Nat.reduceLT, reduceIte, reduceCtorEq, Nat.reduceBEq, Int.reduceLT, Int.reduceToNat, Int.reducePow, Nat.reduceLeDiff, Int.reduceLE, Nat.reduceMul, Nat.reduceSub, hlt, hone, Option.getD_some, Int.natCast_nonneg, Int.toNat_natCast, runes_get l i hi]
    refine callGo_pure (of_pure _) (by rfl) ?_
    simp only [go_sem, Nat.reduceAdd, Nat.reduceEqDiff, Nat.reduceLT, reduceIte, reduceCtorEq, Nat.reduceBEq, Int.reduceLT, Int.reduceToNat, Int.reducePow, Nat.reduceLeDiff, Int.reduceLE, Nat.reduceMul, Nat.reduceSub, Row.prop]
    have d0 : (rowAt l[i]).digits = 0 ∨ (rowAt l[i]).digits = one → system 0 (l.take (i + 1)) = some one := fun h => by rw [hstep, if_pos h]
    refine gGo_splitF (fun h1 => ?_) (fun h1 => ?_)
    · simp only [h1, go_sem, Nat.reduceAdd, Nat.reduceEqDiff, Nat.reduceLT, reduceIte, reduceCtorEq, Nat.reduceBEq, Int.reduceLT, Int.reduceToNat, Int.reducePow, Nat.reduceLeDiff, Int.reduceLE, Nat.reduceMul, Nat.reduceSub]
      simp only [beq_eq_false_iff_ne, ne_eq] at h1
      refine cGo_split (fun h2 => ?_) (fun h2 => ?_)
      · simp only [beq_iff_eq] at h2
        simp only [go_sem, Nat.reduceAdd, Nat.reduceEqDiff, Nat.reduceLT, reduceIte, reduceCtorEq, Nat.reduceBEq, Int.reduceLT, Int.reduceToNat, Int.reducePow, Nat.reduceLeDiff, Int.reduceLE, Nat.reduceMul, Nat.reduceSub]
        simp (disch := omega) only [wrap_i64]
        refine ⟨weak_by [] List.nodup_nil rfl ?_ trivial trivial (by simp), by rw [d0 (.inr h2)]; rfl⟩
        simp only [go_sem, Nat.reduceAdd, Nat.reduceEqDiff, Nat.reduceLT, reduceIte, reduceCtorEq, Nat.reduceBEq, Int.reduceLT, Int.reduceToNat, Int.reducePow, Nat.reduceLeDiff, Int.reduceLE, Nat.reduceMul, Nat.reduceSub, slotsBy, boxesBy, tipsBy, rawAt, nm, AV.ren, AV.renL, AV.under, AV.underL, List.all_nil, List.all_cons, bne_self_eq_false, List.getD_cons_zero, List.getD_cons_succ, List.length_nil, List.length_cons, and_true, true_and, d0 (.inr h2), Option.getD_some, Int.natCast_add, Int.natCast_one]
      · simp only [beq_eq_false_iff_ne, ne_eq] at h2
        simp only [go_sem, Nat.reduceAdd, Nat.reduceEqDiff, Nat.reduceLT, reduceIte, reduceCtorEq, Nat.reduceBEq, Int.reduceLT, Int.reduceToNat, Int.reducePow, Nat.reduceLeDiff, Int.reduceLE, Nat.reduceMul, Nat.reduceSub]
        refine cGo_split (fun h3 => ?_) (fun h3 => ?_)
        · simp only [bne_iff_ne, ne_eq] at h3
          rw [if_neg (by simp [h1, h2]), if_pos h3] at hstep
          simp only [go_sem, Nat.reduceAdd, Nat.reduceEqDiff, Nat.reduceLT, reduceIte, reduceCtorEq, Nat.reduceBEq, Int.reduceLT, Int.reduceToNat, Int.reducePow, Nat.reduceLeDiff, Int.reduceLE, Nat.reduceMul, Nat.reduceSub]
          simp only [Done, resAV, resL, resOne, look_nil, look_cons, Nat.reduceEqDiff, if_true, if_false, reduceIte, ite_true, ite_false, Nat.zero_ne_one, Nat.one_ne_zero, reduceCtorEq, true_or, or_true, true_and, Option.some.injEq, AV.lit.injEq, Value.int.injEq, Value.bool.injEq]
          simp only [oneSystem, system_bad hstep, Option.isSome_none]
        · simp only [bne_eq_false_iff_eq] at h3
          rw [if_neg (by simp [h1, h2]), if_neg (by simp [h3])] at hstep
          simp only [go_sem, Nat.reduceAdd, Nat.reduceEqDiff, Nat.reduceLT, reduceIte, reduceCtorEq, Nat.reduceBEq, Int.reduceLT, Int.reduceToNat, Int.reducePow, Nat.reduceLeDiff, Int.reduceLE, Nat.reduceMul, Nat.reduceSub]
          simp (disch := omega) only [wrap_i64]
          refine ⟨weak_by [] List.nodup_nil rfl ?_ trivial trivial (by simp), by rw [hstep]; rfl⟩
          simp only [go_sem, Nat.reduceAdd, Nat.reduceEqDiff, Nat.reduceLT, reduceIte, reduceCtorEq, Nat.reduceBEq, Int.reduceLT, Int.reduceToNat, Int.reducePow, Nat.reduceLeDiff, Int.reduceLE, Nat.reduceMul, Nat.reduceSub, slotsBy, boxesBy, tipsBy, rawAt, nm, AV.ren, AV.renL, AV.under, AV.underL, List.all_nil, List.all_cons, bne_self_eq_false, List.getD_cons_zero, List.getD_cons_succ, List.length_nil, List.length_cons, and_true, true_and, hstep, Option.getD_some, Int.natCast_add, Int.natCast_one]
    · simp only [h1, go_sem, Nat.reduceAdd, Nat.reduceEqDiff, Nat.reduceLT, reduceIte, reduceCtorEq, Nat.reduceBEq, Int.reduceLT, Int.reduceToNat, Int.reducePow, Nat.reduceLeDiff, Int.reduceLE, Nat.reduceMul, Nat.reduceSub]
      simp only [beq_iff_eq] at h1
      simp (disch := omega) only [wrap_i64]
      refine ⟨weak_by [] List.nodup_nil rfl ?_ trivial trivial (by simp), by rw [d0 (.inl h1)]; rfl⟩
      simp only [go_sem, Nat.reduceAdd, Nat.reduceEqDiff, Nat.reduceLT, reduceIte, reduceCtorEq, Nat.reduceBEq, Int.reduceLT, Int.reduceToNat, Int.reducePow, Nat.reduceLeDiff, Int.reduceLE, Nat.reduceMul, Nat.reduceSub, slotsBy, boxesBy, tipsBy, rawAt, nm, AV.ren, AV.renL, AV.under, AV.underL, List.all_nil, List.all_cons, bne_self_eq_false, List.getD_cons_zero, List.getD_cons_succ, List.length_nil, List.length_cons, and_true, true_and, d0 (.inl h1), Option.getD_some, Int.natCast_add, Int.natCast_one]
  · intro hp
    rw [List.take_length] at hp
    have hlt : (decide ((l.length : Int) < (l.length : Int))) = false := by simp
    simp only [go_sem, Nat.reduceAdd, Nat.reduceEqDiff, Nat.reduceLT, reduceIte, reduceCtorEq, Nat.reduceBEq, Int.reduceLT, Int.reduceToNat, Int.reducePow, Nat.reduceLeDiff, Int.reduceLE, Nat.reduceMul, Nat.reduceSub, hlt]
    simp only [Done, resAV, resL, resOne, look_nil, look_cons, Nat.reduceEqDiff, if_true, if_false, reduceIte, ite_true, ite_false, Nat.zero_ne_one, Nat.one_ne_zero, reduceCtorEq, true_or, or_true, true_and, Option.some.injEq, AV.lit.injEq, Value.int.injEq, Value.bool.injEq]
    simp only [oneSystem, hp]

/-- Values of the kind. -/
def I32 (l : List Int) : Prop := ∀ n ∈ l, -2147483648 ≤ n ∧ n ≤ 2147483647

set_option maxRecDepth 10000 in
theorem refDigits_pure (l : List Int) (hl : l.length ≤ 4611686018427387904) (h32 : I32 l) : Pure Try.prog 30 [.sl 21 (runes l) none] [] (.lit (.bool (oneSystem l))) := by
  refine pure0 Try.func30 c30 n30 e30 r30 (by simp) rfl ?_
  simp only [a30, astart, argSlots, go_sem, Nat.reduceAdd, Nat.reduceEqDiff, Nat.reduceLT, reduceIte, reduceCtorEq, Nat.reduceBEq, Int.reduceLT, Int.reduceToNat, Int.reducePow, Nat.reduceLeDiff, Int.reduceLE, Nat.reduceMul, Nat.reduceSub, runes_length]
  refine loop_to l.length (fun i => ⟨[(0, some (.sl 21 (runes l) none)), (3, some (.lit (.int .u8 ((system 0 (l.take i)).getD 0)))), (4, some (.lit (.int .i64 i)))], [], [], 0⟩)
    (fun i => (system 0 (l.take i)).isSome = true) (weak_by [] List.nodup_nil rfl ?_ trivial trivial (by simp)) (by simp [system]) ?_ ?_
  · simp only [go_sem, Nat.reduceAdd, Nat.reduceEqDiff, Nat.reduceLT, reduceIte, reduceCtorEq, Nat.reduceBEq, Int.reduceLT, Int.reduceToNat, Int.reducePow, Nat.reduceLeDiff, Int.reduceLE, Nat.reduceMul, Nat.reduceSub, slotsBy, boxesBy, tipsBy, rawAt, nm, AV.ren, AV.renL, AV.under, AV.underL, List.all_nil, List.all_cons, bne_self_eq_false, List.getD_cons_zero, List.getD_cons_succ, List.length_nil, List.length_cons, and_true, true_and, Int.natCast_zero, system, Option.getD_some]
  · intro i hi hp
    obtain ⟨one, hone⟩ := Option.isSome_iff_exists.1 hp
    have hlt : (decide ((i : Int) < (l.length : Int))) = true := by simp only [decide_eq_true_eq]; omega
    have hstep := system_take hi hone
    have hr := h32 _ (List.getElem_mem hi)
    simp only [go_sem, Nat.reduceAdd, Nat.reduceEqDiff, Nat.reduceLT, reduceIte, reduceCtorEq, Nat.reduceBEq, Int.reduceLT, Int.reduceToNat, Int.reducePow, Nat.reduceLeDiff, Int.reduceLE, Nat.reduceMul, Nat.reduceSub, hlt, hone, Option.getD_some, Int.natCast_nonneg, Int.toNat_natCast, runes_get l i hi, runes_length]
    refine callGo_pure (refOf_pure _ hr) (by rfl) ?_
    simp only [go_sem, Nat.reduceAdd, Nat.reduceEqDiff, Nat.reduceLT, reduceIte, reduceCtorEq, Nat.reduceBEq, Int.reduceLT, Int.reduceToNat, Int.reducePow, Nat.reduceLeDiff, Int.reduceLE, Nat.reduceMul, Nat.reduceSub, Row.prop]
    generalize (rowAt l[i]).digits = d at hstep ⊢
    have next : ∀ one', system 0 (l.take (i + 1)) = some one' → (system 0 (l.take (i + 1))).isSome = true := fun one' h => by rw [h]; rfl
    by_cases h1 : d = 0
    · have hb : (d != 0) = false := by simp [h1]
      rw [if_pos (.inl h1)] at hstep
      simp only [hb, go_sem, Nat.reduceAdd, Nat.reduceEqDiff, Nat.reduceLT, reduceIte, reduceCtorEq, Nat.reduceBEq, Int.reduceLT, Int.reduceToNat, Int.reducePow, Nat.reduceLeDiff, Int.reduceLE, Nat.reduceMul, Nat.reduceSub]
      simp (disch := omega) only [wrap_i64]
      refine ⟨weak_by [] List.nodup_nil rfl ?_ trivial trivial (by simp), next _ hstep⟩
      simp only [go_sem, Nat.reduceAdd, Nat.reduceEqDiff, Nat.reduceLT, reduceIte, reduceCtorEq, Nat.reduceBEq, Int.reduceLT, Int.reduceToNat, Int.reducePow, Nat.reduceLeDiff, Int.reduceLE, Nat.reduceMul, Nat.reduceSub, slotsBy, boxesBy, tipsBy, rawAt, nm, AV.ren, AV.renL, AV.under, AV.underL, List.all_nil, List.all_cons, bne_self_eq_false, List.getD_cons_zero, List.getD_cons_succ, List.length_nil, List.length_cons, and_true, true_and, hstep, Option.getD_some, Int.natCast_add, Int.natCast_one]
    · have hb : (d != 0) = true := by simp [h1]
      simp only [hb, go_sem, Nat.reduceAdd, Nat.reduceEqDiff, Nat.reduceLT, reduceIte, reduceCtorEq, Nat.reduceBEq, Int.reduceLT, Int.reduceToNat, Int.reducePow, Nat.reduceLeDiff, Int.reduceLE, Nat.reduceMul, Nat.reduceSub]
      by_cases h2 : one = 0
      · have hb2 : (one != 0) = false := by simp [h2]
        have hs : system 0 (l.take (i + 1)) = some d := by
          rw [hstep]
          by_cases h3 : d = one
          · rw [if_pos (.inr h3), h3]
          · rw [if_neg (by simp [h1, h3]), if_neg (by simp [h2])]
        simp only [hb, hb2, go_sem, Nat.reduceAdd, Nat.reduceEqDiff, Nat.reduceLT, reduceIte, reduceCtorEq, Nat.reduceBEq, Int.reduceLT, Int.reduceToNat, Int.reducePow, Nat.reduceLeDiff, Int.reduceLE, Nat.reduceMul, Nat.reduceSub]
        simp (disch := omega) only [wrap_i64]
        refine ⟨weak_by [] List.nodup_nil rfl ?_ trivial trivial (by simp), next _ hs⟩
        simp only [go_sem, Nat.reduceAdd, Nat.reduceEqDiff, Nat.reduceLT, reduceIte, reduceCtorEq, Nat.reduceBEq, Int.reduceLT, Int.reduceToNat, Int.reducePow, Nat.reduceLeDiff, Int.reduceLE, Nat.reduceMul, Nat.reduceSub, slotsBy, boxesBy, tipsBy, rawAt, nm, AV.ren, AV.renL, AV.under, AV.underL, List.all_nil, List.all_cons, bne_self_eq_false, List.getD_cons_zero, List.getD_cons_succ, List.length_nil, List.length_cons, and_true, true_and, hs, Option.getD_some, Int.natCast_add, Int.natCast_one]
      · have hb2 : (one != 0) = true := by simp [h2]
        simp only [hb, hb2, go_sem, Nat.reduceAdd, Nat.reduceEqDiff, Nat.reduceLT, reduceIte, reduceCtorEq, Nat.reduceBEq, Int.reduceLT, Int.reduceToNat, Int.reducePow, Nat.reduceLeDiff, Int.reduceLE, Nat.reduceMul, Nat.reduceSub]
        by_cases h3 : d = one
        · have hb3 : (d != one) = false := by simp [h3]
          rw [if_pos (.inr h3)] at hstep
          simp only [hb, hb2, hb3, go_sem, Nat.reduceAdd, Nat.reduceEqDiff, Nat.reduceLT, reduceIte, reduceCtorEq, Nat.reduceBEq, Int.reduceLT, Int.reduceToNat, Int.reducePow, Nat.reduceLeDiff, Int.reduceLE, Nat.reduceMul, Nat.reduceSub]
          simp (disch := omega) only [wrap_i64]
          refine ⟨weak_by [] List.nodup_nil rfl ?_ trivial trivial (by simp), next _ hstep⟩
          simp only [go_sem, Nat.reduceAdd, Nat.reduceEqDiff, Nat.reduceLT, reduceIte, reduceCtorEq, Nat.reduceBEq, Int.reduceLT, Int.reduceToNat, Int.reducePow, Nat.reduceLeDiff, Int.reduceLE, Nat.reduceMul, Nat.reduceSub, slotsBy, boxesBy, tipsBy, rawAt, nm, AV.ren, AV.renL, AV.under, AV.underL, List.all_nil, List.all_cons, bne_self_eq_false, List.getD_cons_zero, List.getD_cons_succ, List.length_nil, List.length_cons, and_true, true_and, hstep, h3, Option.getD_some, Int.natCast_add, Int.natCast_one]
        · have hb3 : (d != one) = true := by simp [h3]
          rw [if_neg (by simp [h1, h3]), if_pos h2] at hstep
          simp only [hb, hb2, hb3, go_sem, Nat.reduceAdd, Nat.reduceEqDiff, Nat.reduceLT, reduceIte, reduceCtorEq, Nat.reduceBEq, Int.reduceLT, Int.reduceToNat, Int.reducePow, Nat.reduceLeDiff, Int.reduceLE, Nat.reduceMul, Nat.reduceSub]
          simp only [Done, resAV, resL, resOne, look_nil, look_cons, Nat.reduceEqDiff, if_true, if_false, reduceIte, ite_true, ite_false, Nat.zero_ne_one, Nat.one_ne_zero, reduceCtorEq, true_or, or_true, true_and, Option.some.injEq, AV.lit.injEq, Value.int.injEq, Value.bool.injEq]
          simp only [oneSystem, system_bad hstep, Option.isSome_none]
  · intro hp
    rw [List.take_length] at hp
    have hlt : (decide ((l.length : Int) < (l.length : Int))) = false := by simp
    simp only [go_sem, Nat.reduceAdd, Nat.reduceEqDiff, Nat.reduceLT, reduceIte, reduceCtorEq, Nat.reduceBEq, Int.reduceLT, Int.reduceToNat, Int.reducePow, Nat.reduceLeDiff, Int.reduceLE, Nat.reduceMul, Nat.reduceSub, hlt, runes_length]
    simp only [Done, resAV, resL, resOne, look_nil, look_cons, Nat.reduceEqDiff, if_true, if_false, reduceIte, ite_true, ite_false, Nat.zero_ne_one, Nat.one_ne_zero, reduceCtorEq, true_or, or_true, true_and, Option.some.injEq, AV.lit.injEq, Value.int.injEq, Value.bool.injEq]
    simp only [oneSystem, hp]
end Go.Proofs.Ytocaeclhmkojiaa
