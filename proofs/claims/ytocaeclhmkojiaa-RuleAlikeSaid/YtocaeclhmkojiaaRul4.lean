/-
Marks behind the first code point of a label change nothing, neither the clause that it fails nor whether it is bidi; the examples hold: so the law answers true, whatever it is handed. Conditions: none.
-/
import Derived.Test.YtocaeclhmkojiaaRul3
set_option linter.unusedSimpArgs false
set_option linter.unusedVariables false
set_option linter.unusedSectionVars false
namespace Go.Proofs.Ytocaeclhmkojiaa
open Go Go.Ab Go.ChangeShapes Go.WideShapes Go.ChangeAt Go.RowKit
def a5 : ACode :=
  (.seq (.reg [⟨(.some 6), (.mv (.k (.bool false))), .none⟩]) (.seq (.seq (.reg [⟨(.some 9), (.mv (.t 0)), .none⟩, ⟨(.some 10), (.len (.t 9)), .none⟩, ⟨(.some 11), (.bin .eql (.t 10) (.k (.int .i64
  0))), .none⟩, ⟨(.some 12), (.mv (.t 11)), .none⟩, ⟨(.some 13), (.mv (.t 0)), (.some (12, false))⟩, ⟨(.some 14), (.len (.t 13)), (.some (12, false))⟩, ⟨(.some 15), (.bin .gtr (.t 14) (.k (.int .i64
  100))), (.some (12, false))⟩, ⟨(.some 16), (.pick (.t 12) (.k (.bool true)) (.t 15)), .none⟩]) (.cond (.t 16) (.seq (.reg [⟨(.some 17), (.call (.f 21) []), .none⟩, ⟨(.some 6), (.mv (.t 17)), .none⟩])
  .ret) .skip)) (.seq (.reg [⟨(.some 18), (.mv (.t 1)), .none⟩, ⟨(.some 19), (.cvI .i64 (.t 18)), .none⟩, ⟨(.some 20), (.mv (.t 0)), .none⟩, ⟨(.some 21), (.len (.t 20)), .none⟩, ⟨(.some 22), (.bin .rem
  (.t 19) (.t 21)), .none⟩, ⟨(.some 23), (.bin .add (.k (.int .i64 1)) (.t 22)), .none⟩, ⟨(.some 7), (.mv (.t 23)), .none⟩]) (.seq (.reg [⟨(.some 24), (.bs 21 1 []), .none⟩, ⟨(.some 25), (.mv (.t 0)),
  .none⟩, ⟨(.some 26), (.mv (.t 7)), .none⟩, ⟨(.some 27), (.slc 21 (.t 25) .none (.some (.t 26))), .none⟩, ⟨(.some 28), (.app 21 4 (.t 24) (.t 27)), .none⟩, ⟨(.some 8), (.mv (.t 28)), .none⟩]) (.seq
  (.seq (.reg [⟨(.some 29), (.mv (.t 2)), .none⟩, ⟨(.some 30), (.bin .rem (.t 29) (.k (.int .u8 20))), .none⟩, ⟨(.some 31), (.mv (.k (.int .u8 0))), .none⟩]) (.block 0 (.loop (.seq (.reg [⟨(.some 32),
  (.bin .lss (.t 31) (.t 30)), .none⟩]) (.seq (.cond (.t 32) .skip (.exit 0)) (.seq (.block 1 (.reg [⟨(.some 33), (.mv (.t 8)), .none⟩, ⟨(.some 34), (.bs 21 1 [(.k (.int .i32 769))]), .none⟩, ⟨(.some
  35), (.app 21 4 (.t 33) (.t 34)), .none⟩, ⟨(.some 8), (.mv (.t 35)), .none⟩])) (.reg [⟨(.some 36), (.bin .add (.t 31) (.k (.int .u8 1))), .none⟩, ⟨(.some 31), (.mv (.t 36)), .none⟩]))))))) (.seq (.reg
  [⟨(.some 37), (.mv (.t 8)), .none⟩, ⟨(.some 38), (.mv (.t 0)), .none⟩, ⟨(.some 39), (.mv (.t 7)), .none⟩, ⟨(.some 40), (.slc 21 (.t 38) (.some (.t 39)) .none), .none⟩, ⟨(.some 41), (.app 21 4 (.t 37)
  (.t 40)), .none⟩, ⟨(.some 8), (.mv (.t 41)), .none⟩]) (.seq (.reg [⟨(.some 42), (.mv (.t 8)), .none⟩, ⟨(.some 43), (.call (.f 19) [(.t 42)]), .none⟩, ⟨(.some 44), (.mv (.t 0)), .none⟩, ⟨(.some 45),
  (.call (.f 19) [(.t 44)]), .none⟩, ⟨(.some 46), (.bin .eql (.t 43) (.t 45)), .none⟩, ⟨(.some 47), (.mv (.t 46)), .none⟩, ⟨(.some 48), (.mv (.t 8)), (.some (47, true))⟩, ⟨(.some 49), (.call (.f 17)
  [(.t 48)]), (.some (47, true))⟩, ⟨(.some 50), (.mv (.t 0)), (.some (47, true))⟩, ⟨(.some 51), (.call (.f 17) [(.t 50)]), (.some (47, true))⟩, ⟨(.some 52), (.eqB false (.t 49) (.t 51)), (.some (47,
  true))⟩, ⟨(.some 53), (.pick (.t 47) (.t 52) (.k (.bool false))), .none⟩, ⟨(.some 54), (.mv (.t 53)), .none⟩, ⟨(.some 55), (.call (.f 21) []), (.some (54, true))⟩, ⟨(.some 56), (.pick (.t 54) (.t 55)
  (.k (.bool false))), .none⟩, ⟨(.some 6), (.mv (.t 56)), .none⟩]) .ret)))))))
theorem c5 : Try.f5.body.bind (cCode Try.prog 57) = some a5 := by kernel_rfl
theorem r5 : Try.f5.results.toList = [(.tmp 6)] := by kernel_rfl
theorem n5 : Try.f5.ntmps = 57 := by kernel_rfl
theorem e5 : Enters Try.prog 5 := enters_of Try.func5 (by kernel_rfl) (by kernel_rfl)

theorem runes_take (l : List Int) (k : Nat) : (runes l).take k = runes (l.take k) := by simp [runes]
theorem runes_drop (l : List Int) (k : Nat) : (runes l).drop k = runes (l.drop k) := by simp [runes]
theorem runes_append (a b : List Int) : runes a ++ runes b = runes (a ++ b) := by simp [runes]
theorem runes_snoc (a : List Int) (n : Int) : runes a ++ [[.int .i32 n]] = runes (a ++ [n]) := by simp [runes]
attribute [go_sem] runes_take runes_drop runes_append runes_snoc

/-- Marks put in. -/
def marked9 (l : List Int) (k n : Nat) : List Int := l.take k ++ List.replicate n 769 ++ l.drop k

theorem cls_mark : cls 769 = 8 := by decide +kernel

theorem any_marked (l : List Int) (k n : Nat) (p : Int → Bool) (h : p 769 = false) : (marked9 l k n).any p = l.any p := by
  have : l = l.take k ++ l.drop k := (List.take_append_drop k l).symm
  conv => rhs; rw [this]
  simp only [marked9, List.any_append]
  have : (List.replicate n (769 : Int)).any p = false := by
    rw [List.any_eq_false]; intro x hx
    rw [(List.mem_replicate.1 hx).2, h]; simp
  rw [this, Bool.or_false]

theorem last_marked (l : List Int) (k n : Nat) : lastOf (marked9 l k n) = lastOf l := by
  have : l = l.take k ++ l.drop k := (List.take_append_drop k l).symm
  conv => rhs; rw [this]
  have hm : (List.replicate n (769 : Int)).reverse.find? (fun r => !hasB 256 (cls r)) = none := by
    rw [List.find?_eq_none]
    intro x hx
    rw [List.mem_reverse] at hx
    rw [(List.mem_replicate.1 hx).2, cls_mark]
    decide +kernel
  simp only [lastOf, marked9, List.reverse_append, List.find?_append, hm, Option.none_or]

theorem fails_marked (wi en : Int) (l : List Int) (k n : Nat) (h : hasB wi 8 = true) : failsOf wi en (marked9 l k n) = failsOf wi en l := by
  simp only [failsOf, last_marked, any_marked _ _ _ (fun r => !hasB wi (cls r)) (by simp only [cls_mark, h]; rfl)]

theorem rule_marked (l : List Int) (k n : Nat) (hk : 0 < k) (hl : l ≠ []) : ruleOf (marked9 l k n) = ruleOf l := by
  cases l with
  | nil => exact absurd rfl hl
  | cons r q =>
    obtain ⟨k, rfl⟩ : ∃ j, k = j + 1 := ⟨k - 1, by omega⟩
    have e : marked9 (r :: q) (k + 1) n = r :: (q.take k ++ List.replicate n 769 ++ q.drop k) := by simp [marked9]
    have h1 := fails_marked 9145 9 (r :: q) (k + 1) n (by decide +kernel)
    have h2 := fails_marked 9214 78 (r :: q) (k + 1) n (by decide +kernel)
    have h3 := any_marked (r :: q) (k + 1) n (fun r => hasB 8 (cls r)) (by rw [cls_mark]; decide +kernel)
    have h4 := any_marked (r :: q) (k + 1) n (fun r => hasB 64 (cls r)) (by rw [cls_mark]; decide +kernel)
    rw [e] at h1 h2 h3 h4 ⊢
    simp only [ruleOf, h1, h2, h3, h4]

theorem bidi_marked (l : List Int) (k n : Nat) : bidiOf (marked9 l k n) = bidiOf l := any_marked l k n _ (by rw [cls_mark]; decide +kernel)

set_option maxRecDepth 10000 in
theorem ruleMarks_pure (l : List Int) (h : Runes l) (a : Int) (ha : 0 ≤ a ∧ a ≤ 255) (m : Int) (hm : 0 ≤ m ∧ m ≤ 255) : Pure Try.prog 5 [.sl 21 (runes l) none, .lit (.int .u8 a), .lit (.int .u8 m)] [] (.lit (.bool true)) := by
  have hl : l.length ≤ 4611686018427387904 := by have := h.1; omega
  refine pure0 Try.func5 c5 n5 e5 r5 (by simp) rfl ?_
  simp only [a5, astart, argSlots, go_sem, Nat.reduceAdd, Nat.reduceEqDiff, Nat.reduceLT, reduceIte, reduceCtorEq, Nat.reduceBEq, Int.reduceLT, Int.reduceToNat, Int.reducePow, Nat.reduceLeDiff, Int.reduceLE, Nat.reduceMul, Nat.reduceSub]
  by_cases h0 : l.length = 0 ∨ 100 < l.length
  · have key : awp Try.prog 0 a5 (Done Try.prog [.tmp 6] (.lit (.bool true))) ⟨[], [], [], 0⟩ → True := fun _ => trivial
    clear key
    by_cases h1 : l.length = 0
    · have e1 : ((l.length : Int) == 0) = true := by simp [h1]
      simp only [e1, go_sem, Nat.reduceAdd, Nat.reduceEqDiff, Nat.reduceLT, reduceIte, reduceCtorEq, Nat.reduceBEq, Int.reduceLT, Int.reduceToNat, Int.reducePow, Nat.reduceLeDiff, Int.reduceLE, Nat.reduceMul, Nat.reduceSub]
      refine callGo_pure awake09_pure (by rfl) ?_
      simp only [go_sem, Nat.reduceAdd, Nat.reduceEqDiff, Nat.reduceLT, reduceIte, reduceCtorEq, Nat.reduceBEq, Int.reduceLT, Int.reduceToNat, Int.reducePow, Nat.reduceLeDiff, Int.reduceLE, Nat.reduceMul, Nat.reduceSub]
      simp only [Done, resAV, resL, resOne, look_nil, look_cons, Nat.reduceEqDiff, if_true, if_false, reduceIte, ite_true, ite_false, Nat.zero_ne_one, Nat.one_ne_zero, reduceCtorEq, true_or, or_true, true_and, Option.some.injEq, AV.lit.injEq, Value.int.injEq, Value.bool.injEq]
    · have e1 : ((l.length : Int) == 0) = false := by simp; intro he; simp [he] at h1
      have e2 : decide ((l.length : Int) > 100) = true := by simp only [decide_eq_true_eq]; omega
      simp only [e1, e2, go_sem, Nat.reduceAdd, Nat.reduceEqDiff, Nat.reduceLT, reduceIte, reduceCtorEq, Nat.reduceBEq, Int.reduceLT, Int.reduceToNat, Int.reducePow, Nat.reduceLeDiff, Int.reduceLE, Nat.reduceMul, Nat.reduceSub]
      refine callGo_pure awake09_pure (by rfl) ?_
      simp only [go_sem, Nat.reduceAdd, Nat.reduceEqDiff, Nat.reduceLT, reduceIte, reduceCtorEq, Nat.reduceBEq, Int.reduceLT, Int.reduceToNat, Int.reducePow, Nat.reduceLeDiff, Int.reduceLE, Nat.reduceMul, Nat.reduceSub]
      simp only [Done, resAV, resL, resOne, look_nil, look_cons, Nat.reduceEqDiff, if_true, if_false, reduceIte, ite_true, ite_false, Nat.zero_ne_one, Nat.one_ne_zero, reduceCtorEq, true_or, or_true, true_and, Option.some.injEq, AV.lit.injEq, Value.int.injEq, Value.bool.injEq]
  · have hpos : 0 < l.length := by omega
    have hle : l.length ≤ 100 := by omega
    have e1 : ((l.length : Int) == 0) = false := by simp; intro he; simp [he] at hpos
    have e2 : decide ((l.length : Int) > 100) = false := by simp only [decide_eq_false_iff_not]; omega
    have e3 : ((l.length : Int) = 0) = False := by simp; intro he; simp [he] at hpos
    obtain ⟨an, rfl⟩ : ∃ n : Nat, a = n := ⟨a.toNat, by omega⟩
    obtain ⟨mn, rfl⟩ : ∃ n : Nat, m = n := ⟨m.toNat, by omega⟩
    have hw : IntKind.i64.wrap (an : Int) = an := wrap_i64 _ (by omega) (by omega)
    have hmod : (an % l.length) < l.length := Nat.mod_lt _ hpos
    have hk : IntKind.i64.wrap (1 + ((an % l.length : Nat) : Int)) = ((1 + an % l.length : Nat) : Int) := by rw [wrap_i64 _ (by omega) (by omega)]; omega
    have ht : Int.tmod (an : Int) (l.length : Int) = ((an % l.length : Nat) : Int) := by rw [Int.tmod_eq_emod_of_nonneg (by omega)]; rfl
    have ht2 : Int.tmod (mn : Int) 20 = ((mn % 20 : Nat) : Int) := by rw [Int.tmod_eq_emod_of_nonneg (by omega)]; rfl
    have hm20 : mn % 20 < 20 := Nat.mod_lt _ (by omega)
    have e4 : ((20 : Int) = 0) = False := by simp
    simp only [e1, e2, e3, hw, ht, hk, go_sem, Nat.reduceAdd, Nat.reduceEqDiff, Nat.reduceLT, reduceIte, reduceCtorEq, Nat.reduceBEq, Int.reduceLT, Int.reduceToNat, Int.reducePow, Nat.reduceLeDiff, Int.reduceLE, Nat.reduceMul, Nat.reduceSub]
    have hK : 0 ≤ 1 + an % l.length ∧ 1 + an % l.length ≤ l.length := ⟨by omega, by omega⟩
    simp only [hK, ht2, e4, go_sem, Nat.reduceAdd, Nat.reduceEqDiff, Nat.reduceLT, reduceIte, reduceCtorEq, Nat.reduceBEq, Int.reduceLT, Int.reduceToNat, Int.reducePow, Nat.reduceLeDiff, Int.reduceLE, Nat.reduceMul, Nat.reduceSub]
    have hpK : 0 < 1 + an % l.length := by omega
    generalize 1 + an % l.length = K at hK hpK
    have htl := List.length_take_le K l
    have htl' : (l.take K).length ≤ l.length := by simp; omega
    refine ⟨by omega, ?_⟩
    refine loop_to (mn % 20) (fun i => ⟨[(0, some (.sl 21 (runes l) none)), (6, some (.lit (.bool false))), (7, some (.lit (.int .i64 (K : Int)))), (30, some (.lit (.int .u8 ((mn % 20 : Nat) : Int)))), (31, some (.lit (.int .u8 (i : Int)))), (8, some (.sl 21 (runes (l.take K ++ List.replicate i 769)) (some 0)))], [], [(0, 21)], 1⟩)
      (fun _ => True) (weak_by [1] (by simp) rfl ?_ trivial ?_ (by simp)) trivial ?_ ?_
    · simp only [go_sem, Nat.reduceAdd, Nat.reduceEqDiff, Nat.reduceLT, reduceIte, reduceCtorEq, Nat.reduceBEq, Int.reduceLT, Int.reduceToNat, Int.reducePow, Nat.reduceLeDiff, Int.reduceLE, Nat.reduceMul, Nat.reduceSub, slotsBy, boxesBy, tipsBy, rawAt, nm, AV.ren, AV.renL, AV.under, AV.underL, List.all_nil, List.all_cons, bne_self_eq_false, List.getD_cons_zero, List.getD_cons_succ, List.length_nil, List.length_cons, and_true, true_and, Int.natCast_zero, List.replicate_zero, List.append_nil]
    · simp only [go_sem, Nat.reduceAdd, Nat.reduceEqDiff, Nat.reduceLT, reduceIte, reduceCtorEq, Nat.reduceBEq, Int.reduceLT, Int.reduceToNat, Int.reducePow, Nat.reduceLeDiff, Int.reduceLE, Nat.reduceMul, Nat.reduceSub, slotsBy, boxesBy, tipsBy, rawAt, nm, AV.ren, AV.renL, AV.under, AV.underL, List.all_nil, List.all_cons, bne_self_eq_false, List.getD_cons_zero, List.getD_cons_succ, List.length_nil, List.length_cons, and_true, true_and, beq_self_eq_true]
    · intro i hi _
      simp only [go_sem, Nat.reduceAdd, Nat.reduceEqDiff, Nat.reduceLT, reduceIte, reduceCtorEq, Nat.reduceBEq, Int.reduceLT, Int.reduceToNat, Int.reducePow, Nat.reduceLeDiff, Int.reduceLE, Nat.reduceMul, Nat.reduceSub, hi]
      simp (disch := omega) only [wrap_u8]
      refine ⟨by simp only [List.length_append, List.length_replicate]; omega, ?_⟩
      refine weak_by [2] (by simp) rfl ?_ trivial ?_ (by simp)
      · simp only [go_sem, Nat.reduceAdd, Nat.reduceEqDiff, Nat.reduceLT, reduceIte, reduceCtorEq, Nat.reduceBEq, Int.reduceLT, Int.reduceToNat, Int.reducePow, Nat.reduceLeDiff, Int.reduceLE, Nat.reduceMul, Nat.reduceSub, slotsBy, boxesBy, tipsBy, rawAt, nm, AV.ren, AV.renL, AV.under, AV.underL, List.all_nil, List.all_cons, bne_self_eq_false, List.getD_cons_zero, List.getD_cons_succ, List.length_nil, List.length_cons, and_true, true_and, Int.natCast_add, Int.natCast_one, List.replicate_succ', List.append_assoc]
      · simp only [go_sem, Nat.reduceAdd, Nat.reduceEqDiff, Nat.reduceLT, reduceIte, reduceCtorEq, Nat.reduceBEq, Int.reduceLT, Int.reduceToNat, Int.reducePow, Nat.reduceLeDiff, Int.reduceLE, Nat.reduceMul, Nat.reduceSub, slotsBy, boxesBy, tipsBy, rawAt, nm, AV.ren, AV.renL, AV.under, AV.underL, List.all_nil, List.all_cons, bne_self_eq_false, List.getD_cons_zero, List.getD_cons_succ, List.length_nil, List.length_cons, and_true, true_and, beq_self_eq_true]
    · intro _
      have hM : marked9 l K (mn % 20) = l.take K ++ List.replicate (mn % 20) 769 ++ l.drop K := rfl
      have hMl : (marked9 l K (mn % 20)).length ≤ 200 := by rw [hM]; simp only [List.length_append, List.length_replicate, List.length_drop]; omega
      have hr := rule_marked l K (mn % 20) hpK (by intro e; simp [e] at hpos)
      have hb := bidi_marked l K (mn % 20)
      simp only [go_sem, Nat.reduceAdd, Nat.reduceEqDiff, Nat.reduceLT, reduceIte, reduceCtorEq, Nat.reduceBEq, Int.reduceLT, Int.reduceToNat, Int.reducePow, Nat.reduceLeDiff, Int.reduceLE, Nat.reduceMul, Nat.reduceSub, hK.2, Nat.le_refl, if_pos, List.take_length, ← hM]
      refine ⟨by simp only [List.length_append, List.length_replicate, List.length_drop]; omega, ?_⟩
      generalize marked9 l K (mn % 20) = M at hr hb hMl
      refine callGo_pure (rule_pure M (by omega)) (by rfl) ?_
      simp only [go_sem, Nat.reduceAdd, Nat.reduceEqDiff, Nat.reduceLT, reduceIte, reduceCtorEq, Nat.reduceBEq, Int.reduceLT, Int.reduceToNat, Int.reducePow, Nat.reduceLeDiff, Int.reduceLE, Nat.reduceMul, Nat.reduceSub]
      refine callGo_pure (rule_pure l (by omega)) (by rfl) ?_
      simp only [hr, beq_self_eq_true, go_sem, Nat.reduceAdd, Nat.reduceEqDiff, Nat.reduceLT, reduceIte, reduceCtorEq, Nat.reduceBEq, Int.reduceLT, Int.reduceToNat, Int.reducePow, Nat.reduceLeDiff, Int.reduceLE, Nat.reduceMul, Nat.reduceSub]
      refine callGo_pure (bidi_pure M (by omega)) (by rfl) ?_
      simp only [go_sem, Nat.reduceAdd, Nat.reduceEqDiff, Nat.reduceLT, reduceIte, reduceCtorEq, Nat.reduceBEq, Int.reduceLT, Int.reduceToNat, Int.reducePow, Nat.reduceLeDiff, Int.reduceLE, Nat.reduceMul, Nat.reduceSub]
      refine callGo_pure (bidi_pure l (by omega)) (by rfl) ?_
      simp only [hb, beq_self_eq_true, go_sem, Nat.reduceAdd, Nat.reduceEqDiff, Nat.reduceLT, reduceIte, reduceCtorEq, Nat.reduceBEq, Int.reduceLT, Int.reduceToNat, Int.reducePow, Nat.reduceLeDiff, Int.reduceLE, Nat.reduceMul, Nat.reduceSub]
      refine callGo_pure awake09_pure (by rfl) ?_
      simp only [go_sem, Nat.reduceAdd, Nat.reduceEqDiff, Nat.reduceLT, reduceIte, reduceCtorEq, Nat.reduceBEq, Int.reduceLT, Int.reduceToNat, Int.reducePow, Nat.reduceLeDiff, Int.reduceLE, Nat.reduceMul, Nat.reduceSub]
      simp only [Done, resAV, resL, resOne, look_nil, look_cons, Nat.reduceEqDiff, if_true, if_false, reduceIte, ite_true, ite_false, Nat.zero_ne_one, Nat.one_ne_zero, reduceCtorEq, true_or, or_true, true_and, Option.some.injEq, AV.lit.injEq, Value.int.injEq, Value.bool.injEq]

theorem ruleMarks_any (avs : List AV) (h : Args Try.prog Try.f5.params.toList avs) : Pure Try.prog 5 avs [] (.lit (.bool true)) := by
  have hp : Try.f5.params.toList = [22, 5, 5] := by kernel_rfl
  rw [hp] at h
  obtain ⟨av0, rest0, rfl, a0, h0⟩ := h
  obtain ⟨av1, rest1, rfl, a1, h1⟩ := h0
  obtain ⟨av2, rest2, rfl, a2, rfl⟩ := h1
  obtain ⟨z0, rfl, w0, s0⟩ := arg_ints (e := 21) (k := .i32) (by kernel_rfl) (by kernel_rfl) a0
  rw [show Try.prog.bytesOf 21 = 4 from by kernel_rfl] at s0
  obtain ⟨z1, rfl, w1⟩ := arg_int (k := .u8) (by kernel_rfl) a1
  obtain ⟨z2, rfl, w2⟩ := arg_int (k := .u8) (by kernel_rfl) a2
  exact ruleMarks_pure z0 ⟨by omega, fun n hn => by simpa [Lit.wf, IntKind.min, IntKind.max, IntKind.signed, IntKind.bits] using w0 n hn⟩ z1 (by simpa [Lit.wf, IntKind.min, IntKind.max, IntKind.signed, IntKind.bits] using w1) z2 (by simpa [Lit.wf, IntKind.min, IntKind.max, IntKind.signed, IntKind.bits] using w2)

set_option maxRecDepth 100000 in
theorem ruleMarks_lifted (os : Os) (started : os.Started) (H : Type) (enc : TypeId × Value → H) :
    ReturnsInHanded {} Try.checked os 5 .any (Rows.ruleMarksSpec.pre6 enc Try.prog Try.f5 Rows.ruleMarksRow.domain false) (Rows.ruleMarksSpec.post enc Try.prog Try.f5 false true false false) := by
  refine law_returns (C := Try.checked) (tb := 4) (by kernel_rfl) started (by kernel_rfl) Try.func5
    (ChangeSpec.witness6 (enc := enc) (C := Try.checked) false ⟨#[], #[.slice none 0 0, .int .u8 0, .int .u8 0], []⟩ 8 (by kernel_rfl) (by kernel_rfl) (by kernel_rfl) (by kernel_rfl))
    (by kernel_rfl) (by kernel_rfl) rfl rfl (by kernel_rfl) (by kernel_rfl) ?_ ruleMarks_any
  intro ds hds
  have hp : Try.f5.params.toList = [22, 5, 5] := by kernel_rfl
  rw [hp] at hds
  match ds, hds with
  | [d0, d1, d2], _ => exact ⟨rfl, rfl, rfl⟩

theorem ruleMarks_holds : Rows.RuleMarksSaid :=
  OpenClaim.holds_of_wide 5 Try.f5 rfl rfl rfl rfl rfl rfl rfl ⟨rfl, rfl, rfl, rfl, rfl⟩ rfl rfl rfl rfl rfl (by kernel_rfl) Try.func5 (by kernel_rfl)
    (of_decide_eq_true (by kernel_rfl)) (by unfold Func.isWrapper; first | (rw [if_pos (by decide +kernel)]; kernel_rfl) | (rw [if_neg (by decide +kernel)]; exact ⟨rfl, rfl⟩))
    (fun os started H enc _ => ruleMarks_lifted os started H enc)
end Go.Proofs.Ytocaeclhmkojiaa
