/-
The last place of a byte. Conditions: none.
-/
import Derived.Test.YtmhpjoadfgplgaaPunM
set_option linter.unusedSimpArgs false
set_option linter.unusedVariables false
set_option linter.unusedSectionVars false
namespace Go.Proofs.Ytmhpjoadfgplgaa
open Go Go.Ab
def a21 : ACode :=
  (.seq (.reg [⟨(.some 4), (.mv (.k (.int .i64 0))), .none⟩]) (.seq (.reg [⟨(.some 5), (.mv (.t 0)), .none⟩, ⟨(.some 6), (.mv (.t 1)), .none⟩, ⟨(.some 7), (.call (.f 52) [(.t 5), (.t 6)]), .none⟩,
  ⟨(.some 4), (.mv (.t 7)), .none⟩]) .ret))
theorem c21 : Try.f21.body.bind (cCode Try.prog 8) = some a21 := by kernel_rfl
theorem r21 : Try.f21.results.toList = [(.tmp 4)] := by kernel_rfl
theorem n21 : Try.f21.ntmps = 8 := by kernel_rfl
theorem e21 : Enters Try.prog 21 := enters_of Try.func21 (by kernel_rfl) (by kernel_rfl)
def a52 : ACode :=
  (.seq (.reg [⟨(.some 4), (.mv (.k (.int .i64 0))), .none⟩]) (.seq (.seq (.reg [⟨(.some 6), (.mv (.t 0)), .none⟩, ⟨(.some 7), (.lenS (.t 6)), .none⟩, ⟨(.some 8), (.bin .sub (.t 7) (.k (.int .i64 1))),
  .none⟩, ⟨(.some 5), (.mv (.t 8)), .none⟩]) (.block 0 (.loop (.seq (.seq (.reg [⟨(.some 9), (.mv (.t 5)), .none⟩, ⟨(.some 10), (.bin .geq (.t 9) (.k (.int .i64 0))), .none⟩]) (.cond (.t 10) .skip
  (.exit 0))) (.seq (.block 1 (.seq (.reg [⟨(.some 13), (.mv (.t 0)), .none⟩, ⟨(.some 14), (.mv (.t 5)), .none⟩, ⟨(.some 15), (.ixS (.t 13) (.t 14)), .none⟩, ⟨(.some 16), (.mv (.t 1)), .none⟩, ⟨(.some
  17), (.bin .eql (.t 15) (.t 16)), .none⟩]) (.cond (.t 17) (.seq (.reg [⟨(.some 18), (.mv (.t 5)), .none⟩, ⟨(.some 4), (.mv (.t 18)), .none⟩]) .ret) .skip))) (.reg [⟨(.some 11), (.mv (.t 5)), .none⟩,
  ⟨(.some 12), (.bin .sub (.t 11) (.k (.int .i64 1))), .none⟩, ⟨(.some 5), (.mv (.t 12)), .none⟩])))))) (.seq (.reg [⟨(.some 4), (.mv (.k (.int .i64 (-1)))), .none⟩]) .ret)))
theorem c52 : Try.f52.body.bind (cCode Try.prog 19) = some a52 := by kernel_rfl
theorem r52 : Try.f52.results.toList = [(.tmp 4)] := by kernel_rfl
theorem n52 : Try.f52.ntmps = 19 := by kernel_rfl
theorem e52 : Enters Try.prog 52 := enters_of Try.func52 (by kernel_rfl) (by kernel_rfl)

/-- The last place of a byte, as a number; -1: none. -/
def lastI (c : Nat) (s : List Nat) : Int := match lastN c s s.length with
  | some i => (i : Int)
  | none => -1

set_option maxRecDepth 10000 in
theorem lastBytealg_pure (s : List Nat) (c : Nat) (hs : ∀ n ∈ s, n ≤ 255) (hl : s.length ≤ 1099511627776) : Pure Try.prog 52 [.lit (.string (txt s)), .lit (.int .u8 (c : Int))] [] (.lit (.int .i64 (lastI c s))) := by
  refine pure0 Try.func52 c52 n52 e52 r52 (by simp) (by rfl) ?_
  have w0 : IntKind.i64.wrap ((s.length : Int) - 1) = (s.length : Int) - 1 := wrap_i64 _ (by omega) (by omega)
  simp only [a52, astart, argSlots, txt_size, w0, go_sem, Nat.reduceAdd, Nat.reduceEqDiff, Nat.reduceLT, reduceIte, reduceCtorEq, Nat.reduceBEq, Int.reduceLT, Int.reduceToNat, Int.reducePow, Nat.reduceLeDiff, Int.reduceLE, Nat.reduceMul, Nat.reduceSub]
  refine loop_by (α := Nat) (fun x => ⟨[(0, some (.lit (.string (txt s)))), (1, some (.lit (.int .u8 (c : Int)))), (5, some (.lit (.int .i64 ((x : Int) - 1))))], [], [], 0⟩)
    (fun x => x ≤ s.length ∧ lastN c s s.length = lastN c s x) (fun x => x) (fun x y h => by
      have := congrArg (fun z => match Ab.look z.slots 5 with | some (.lit (.int .i64 n)) => n | _ => 0) h
      simp [Ab.look] at this
      omega) s.length (weak_forget ?_ (List.Sublist.refl _) (List.Sublist.refl _)) ⟨Nat.le_refl _, rfl⟩ ?_
  · simp only [go_sem, Nat.reduceAdd, Nat.reduceEqDiff, Nat.reduceLT, reduceIte, reduceCtorEq, Nat.reduceBEq, Int.reduceLT, Int.reduceToNat, Int.reducePow, Nat.reduceLeDiff, Int.reduceLE, Nat.reduceMul, Nat.reduceSub, slotsBy, boxesBy, tipsBy, rawAt, nm, AV.ren, AV.renL, AV.under, AV.underL, List.all_nil, List.all_cons, bne_self_eq_false, List.getD_cons_zero, List.getD_cons_succ, List.length_nil, List.length_cons, and_true, true_and, slotsSub]
  · rintro x ⟨h1, h2⟩
    simp only [go_sem, Nat.reduceAdd, Nat.reduceEqDiff, Nat.reduceLT, reduceIte, reduceCtorEq, Nat.reduceBEq, Int.reduceLT, Int.reduceToNat, Int.reducePow, Nat.reduceLeDiff, Int.reduceLE, Nat.reduceMul, Nat.reduceSub]
    rcases Nat.eq_zero_or_pos x with h0 | h0
    · subst h0
      have d1 : decide (((0 : Nat) : Int) - 1 ≥ 0) = false := by decide
      have e : lastI c s = -1 := by unfold lastI; rw [h2]; rfl
      simp only [d1, e, go_sem, Nat.reduceAdd, Nat.reduceEqDiff, Nat.reduceLT, reduceIte, reduceCtorEq, Nat.reduceBEq, Int.reduceLT, Int.reduceToNat, Int.reducePow, Nat.reduceLeDiff, Int.reduceLE, Nat.reduceMul, Nat.reduceSub]
      simp only [Done, resAV, resL, resOne, look_nil, look_cons, Nat.reduceEqDiff, if_true, if_false, reduceIte, ite_true, ite_false, Nat.zero_ne_one, Nat.one_ne_zero, reduceCtorEq, true_or, or_true, true_and, Option.some.injEq, AV.lit.injEq, Value.int.injEq, Value.bool.injEq]
    · obtain ⟨y, rfl⟩ : ∃ y, x = y + 1 := ⟨x - 1, by omega⟩
      have hy : y < s.length := by omega
      have ey : (((y + 1 : Nat) : Int) - 1) = (y : Int) := by omega
      have d1 : decide ((y : Int) ≥ 0) = true := by simp
      have hsy := hs s[y] (List.getElem_mem hy)
      rw [ey]
      simp only [d1, txt_get hy, u8_int hsy, go_sem, Nat.reduceAdd, Nat.reduceEqDiff, Nat.reduceLT, reduceIte, reduceCtorEq, Nat.reduceBEq, Int.reduceLT, Int.reduceToNat, Int.reducePow, Nat.reduceLeDiff, Int.reduceLE, Nat.reduceMul, Nat.reduceSub]
      rw [lastN, List.getElem?_eq_getElem hy] at h2
      by_cases hc : s[y] = c
      · have d2 : (((s[y] : Nat) : Int) == (c : Int)) = true := by simp [hc]
        rw [if_pos (by rw [hc])] at h2
        have e : lastI c s = (y : Int) := by unfold lastI; rw [h2]
        simp only [d2, e, go_sem, Nat.reduceAdd, Nat.reduceEqDiff, Nat.reduceLT, reduceIte, reduceCtorEq, Nat.reduceBEq, Int.reduceLT, Int.reduceToNat, Int.reducePow, Nat.reduceLeDiff, Int.reduceLE, Nat.reduceMul, Nat.reduceSub]
        simp only [Done, resAV, resL, resOne, look_nil, look_cons, Nat.reduceEqDiff, if_true, if_false, reduceIte, ite_true, ite_false, Nat.zero_ne_one, Nat.one_ne_zero, reduceCtorEq, true_or, or_true, true_and, Option.some.injEq, AV.lit.injEq, Value.int.injEq, Value.bool.injEq]
      · have d2 : (((s[y] : Nat) : Int) == (c : Int)) = false := by simp; omega
        rw [if_neg (by simpa using hc)] at h2
        have w1 : IntKind.i64.wrap ((y : Int) - 1) = (y : Int) - 1 := wrap_i64 _ (by omega) (by omega)
        simp only [d2, w1, go_sem, Nat.reduceAdd, Nat.reduceEqDiff, Nat.reduceLT, reduceIte, reduceCtorEq, Nat.reduceBEq, Int.reduceLT, Int.reduceToNat, Int.reducePow, Nat.reduceLeDiff, Int.reduceLE, Nat.reduceMul, Nat.reduceSub]
        refine ⟨y, weak_forget ?_ (List.Sublist.refl _) (List.Sublist.refl _), ⟨by omega, h2⟩, by omega⟩
        simp only [go_sem, Nat.reduceAdd, Nat.reduceEqDiff, Nat.reduceLT, reduceIte, reduceCtorEq, Nat.reduceBEq, Int.reduceLT, Int.reduceToNat, Int.reducePow, Nat.reduceLeDiff, Int.reduceLE, Nat.reduceMul, Nat.reduceSub, slotsBy, boxesBy, tipsBy, rawAt, nm, AV.ren, AV.renL, AV.under, AV.underL, List.all_nil, List.all_cons, bne_self_eq_false, List.getD_cons_zero, List.getD_cons_succ, List.length_nil, List.length_cons, and_true, true_and, slotsSub]

set_option maxRecDepth 10000 in
theorem lastIx_pure (s : List Nat) (c : Nat) (hs : ∀ n ∈ s, n ≤ 255) (hl : s.length ≤ 1099511627776) : Pure Try.prog 21 [.lit (.string (txt s)), .lit (.int .u8 (c : Int))] [] (.lit (.int .i64 (lastI c s))) := by
  refine pure0 Try.func21 c21 n21 e21 r21 (by simp) (by rfl) ?_
  simp only [a21, astart, argSlots, go_sem, Nat.reduceAdd, Nat.reduceEqDiff, Nat.reduceLT, reduceIte, reduceCtorEq, Nat.reduceBEq, Int.reduceLT, Int.reduceToNat, Int.reducePow, Nat.reduceLeDiff, Int.reduceLE, Nat.reduceMul, Nat.reduceSub]
  refine callGo_pure (lastBytealg_pure s c hs hl) (by rfl) ?_
  simp only [go_sem, Nat.reduceAdd, Nat.reduceEqDiff, Nat.reduceLT, reduceIte, reduceCtorEq, Nat.reduceBEq, Int.reduceLT, Int.reduceToNat, Int.reducePow, Nat.reduceLeDiff, Int.reduceLE, Nat.reduceMul, Nat.reduceSub]
  simp only [Done, resAV, resL, resOne, look_nil, look_cons, Nat.reduceEqDiff, if_true, if_false, reduceIte, ite_true, ite_false, Nat.zero_ne_one, Nat.one_ne_zero, reduceCtorEq, true_or, or_true, true_and, Option.some.injEq, AV.lit.injEq, Value.int.injEq, Value.bool.injEq]
end Go.Proofs.Ytmhpjoadfgplgaa
