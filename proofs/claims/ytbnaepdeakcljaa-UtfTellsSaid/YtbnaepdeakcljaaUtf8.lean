/-
Scalars encoded are valid, and decoded as they were; bytes decoded and encoded are as they were just if they are valid; and always valid then: so the law answers true, whatever it is handed. Conditions: none.
-/
import Derived.Test.YtbnaepdeakcljaaUtf7
set_option linter.unusedSimpArgs false
set_option linter.unusedVariables false
set_option linter.unusedSectionVars false
namespace Go.Proofs.Ytbnaepdeakcljaa
open Go Go.Ab Go.ChangeShapes Go.WideShapes Go.ChangeAt Go.RowKit
def a7 : ACode :=
  (.seq (.reg [⟨(.some 4), (.mv (.k (.bool false))), .none⟩]) (.seq (.seq (.reg [⟨(.some 10), (.mv (.t 0)), .none⟩, ⟨(.some 11), (.len (.t 10)), .none⟩, ⟨(.some 12), (.bin .gtr (.t 11) (.k (.int .i64
  300))), .none⟩, ⟨(.some 13), (.mv (.t 12)), .none⟩, ⟨(.some 14), (.mv (.t 1)), (.some (13, false))⟩, ⟨(.some 15), (.len (.t 14)), (.some (13, false))⟩, ⟨(.some 16), (.bin .gtr (.t 15) (.k (.int .i64
  500))), (.some (13, false))⟩, ⟨(.some 17), (.pick (.t 13) (.k (.bool true)) (.t 16)), .none⟩]) (.cond (.t 17) (.seq (.reg [⟨(.some 18), (.call (.f 19) []), .none⟩, ⟨(.some 4), (.mv (.t 18)), .none⟩])
  .ret) .skip)) (.seq (.reg [⟨(.some 5), (.mv (.k (.slice .none 0 0))), .none⟩]) (.seq (.seq (.reg [⟨(.some 19), (.mv (.t 0)), .none⟩, ⟨(.some 20), (.len (.t 19)), .none⟩, ⟨(.some 21), (.mv (.k (.int
  .i64 0))), .none⟩]) (.block 0 (.loop (.seq (.reg [⟨(.some 22), (.bin .lss (.t 21) (.t 20)), .none⟩]) (.seq (.cond (.t 22) .skip (.exit 0)) (.seq (.block 1 (.seq (.reg [⟨(.some 23), (.ia 21 (.t 19) (.t
  21)), .none⟩, ⟨(.some 24), (.ld .none (.t 23)), .none⟩, ⟨(.some 7), (.mv (.t 24)), .none⟩]) (.seq (.seq (.reg [⟨(.some 25), (.mv (.t 7)), .none⟩, ⟨(.some 26), (.call (.f 20) [(.t 25)]), .none⟩,
  ⟨(.some 27), (.not (.t 26)), .none⟩]) (.cond (.t 27) (.reg [⟨(.some 7), (.mv (.k (.int .i32 65533))), .none⟩]) .skip)) (.reg [⟨(.some 28), (.mv (.t 5)), .none⟩, ⟨(.some 29), (.mv (.t 7)), .none⟩,
  ⟨(.some 30), (.bs 21 1 [(.t 29)]), .none⟩, ⟨(.some 31), (.app 21 4 (.t 28) (.t 30)), .none⟩, ⟨(.some 5), (.mv (.t 31)), .none⟩])))) (.reg [⟨(.some 32), (.bin .add (.t 21) (.k (.int .i64 1))), .none⟩,
  ⟨(.some 21), (.mv (.t 32)), .none⟩]))))))) (.seq (.reg [⟨(.some 33), (.mv (.t 0)), .none⟩, ⟨(.some 34), (.call (.f 17) [(.t 33)]), .none⟩, ⟨(.some 8), (.mv (.t 34)), .none⟩]) (.seq (.reg [⟨(.some 35),
  (.mv (.t 1)), .none⟩, ⟨(.some 36), (.call (.f 15) [(.t 35)]), .none⟩, ⟨(.some 37), (.call (.f 17) [(.t 36)]), .none⟩, ⟨(.some 9), (.mv (.t 37)), .none⟩]) (.seq (.reg [⟨(.some 38), (.mv (.t 8)),
  .none⟩, ⟨(.some 39), (.call (.f 26) [(.t 38)]), .none⟩, ⟨(.some 40), (.mv (.t 39)), .none⟩, ⟨(.some 41), (.mv (.t 8)), (.some (40, true))⟩, ⟨(.some 42), (.call (.f 15) [(.t 41)]), (.some (40, true))⟩,
  ⟨(.some 43), (.mv (.t 5)), (.some (40, true))⟩, ⟨(.some 44), (.call (.f 16) [(.t 42), (.t 43)]), (.some (40, true))⟩, ⟨(.some 45), (.pick (.t 40) (.t 44) (.k (.bool false))), .none⟩, ⟨(.some 46), (.mv
  (.t 45)), .none⟩, ⟨(.some 47), (.mv (.t 9)), (.some (46, true))⟩, ⟨(.some 48), (.mv (.t 1)), (.some (46, true))⟩, ⟨(.some 49), (.call (.f 18) [(.t 47), (.t 48)]), (.some (46, true))⟩, ⟨(.some 50),
  (.mv (.t 1)), (.some (46, true))⟩, ⟨(.some 51), (.call (.f 26) [(.t 50)]), (.some (46, true))⟩, ⟨(.some 52), (.eqB false (.t 49) (.t 51)), (.some (46, true))⟩, ⟨(.some 53), (.pick (.t 46) (.t 52) (.k
  (.bool false))), .none⟩, ⟨(.some 54), (.mv (.t 53)), .none⟩, ⟨(.some 55), (.mv (.t 9)), (.some (54, true))⟩, ⟨(.some 56), (.call (.f 26) [(.t 55)]), (.some (54, true))⟩, ⟨(.some 57), (.pick (.t 54)
  (.t 56) (.k (.bool false))), .none⟩, ⟨(.some 58), (.mv (.t 57)), .none⟩, ⟨(.some 59), (.call (.f 19) []), (.some (58, true))⟩, ⟨(.some 60), (.pick (.t 58) (.t 59) (.k (.bool false))), .none⟩, ⟨(.some
  4), (.mv (.t 60)), .none⟩]) .ret)))))))
theorem c7 : Try.f7.body.bind (cCode Try.prog 61) = some a7 := by kernel_rfl
theorem r7 : Try.f7.results.toList = [(.tmp 4)] := by kernel_rfl
theorem n7 : Try.f7.ntmps = 61 := by kernel_rfl
theorem e7 : Enters Try.prog 7 := enters_of Try.func7 (by kernel_rfl) (by kernel_rfl)

theorem cut_enc {r : Nat} (h : Scalar r) (at_ : Nat) (t : List Nat) : cut at_ (encN r ++ t) = (r, at_, at_ + (encN r).length, true) :: cut (at_ + (encN r).length) t := by
  have hn := nx_enc h t
  have hl := encN_len r
  have hd : (encN r ++ t).drop (encN r).length = t := List.drop_left
  cases he : encN r with
  | nil => rw [he] at hl; simp at hl
  | cons c u =>
    rw [he] at hn hd
    rw [List.cons_append] at hn hd ⊢
    rw [cut_cons, hn]
    simp only []
    rw [hd]

theorem cut_encL (l : List Int) (at_ : Nat) : numsOf (cut at_ (encL l)) = l.map (fun r => ((fixN r : Nat) : Int)) ∧ (cut at_ (encL l)).all (fun x => x.2.2.2) = true := by
  induction l generalizing at_ with
  | nil => exact ⟨rfl, rfl⟩
  | cons r l ih =>
    have e : encL (r :: l) = encN (fixN r) ++ encL l := rfl
    rw [e, cut_enc (fixN_scalar r)]
    have := ih (at_ + (encN (fixN r)).length)
    simp only [numsOf, List.map_cons, List.all_cons, Bool.true_and] at this ⊢
    exact ⟨by rw [this.1], this.2⟩

theorem dec_enc (l : List Int) : decL (encL l) = l.map (fun r => ((fixN r : Nat) : Int)) := (cut_encL l 0).1
theorem valid_enc (l : List Int) : validL (encL l) = true := (cut_encL l 0).2

/-- A number that a code has is a scalar. -/
theorem nx_scalar {c : Nat} {t : List Nat} (hb : ∀ n ∈ c :: t, n ≤ 255) : Scalar (nx (c :: t)).1 := by
  rcases hz : nx (c :: t) with ⟨r, k, o⟩
  cases o with
  | true => exact (nx_ok hb hz).1
  | false =>
    have := (nx_fail (c := c) (t := t) (by rw [hz])).1
    rw [hz] at this
    simp only at this
    subst this
    unfold Scalar; omega
theorem scalar_B {r : Nat} (h : Scalar r) : scalarB (r : Int) = true := by
  unfold Scalar at h
  simp only [scalarB, Bool.and_eq_true, Bool.or_eq_true, decide_eq_true_eq]
  omega
theorem fixN_cast {r : Nat} (h : Scalar r) : fixN (r : Int) = r := by have := fixN_of (scalar_B h); omega

theorem enc_dec_aux : ∀ (n at_ : Nat) (b : List Nat), b.length ≤ n → (∀ x ∈ b, x ≤ 255) → (cut at_ b).all (fun x => x.2.2.2) = true → encL (numsOf (cut at_ b)) = b
  | 0, at_, b, hn, _, _ => by
    have : b = [] := List.eq_nil_of_length_eq_zero (by omega)
    subst this; rfl
  | n + 1, at_, [], _, _, _ => rfl
  | n + 1, at_, c :: t, hn, hb, hv => by
    have hk := nx_len c t
    have hs := nx_scalar hb
    rcases hz : nx (c :: t) with ⟨r, k, o⟩
    rw [cut_cons, hz, List.all_cons, Bool.and_eq_true] at hv
    obtain ⟨rfl, hv⟩ := hv
    obtain ⟨h1, h2, h3⟩ := nx_ok hb hz
    rw [hz] at hk
    have ih := enc_dec_aux n (at_ + k) ((c :: t).drop k) (by simp only [List.length_drop]; simp only [List.length_cons] at hn hk ⊢; omega) (fun x hx => hb x (List.mem_of_mem_drop hx)) hv
    rw [cut_cons, hz]
    simp only [numsOf, List.map_cons] at ih ⊢
    show encN (fixN (r : Int)) ++ encL _ = _
    rw [ih, fixN_cast h1, ← h2, List.take_append_drop]

theorem enc_dec (b : List Nat) (hb : ∀ x ∈ b, x ≤ 255) : (encL (decL b) == b) = validL b := by
  rw [Bool.eq_iff_iff, beq_iff_eq]
  constructor
  · intro h
    rw [← h]; exact valid_enc _
  · intro h
    exact enc_dec_aux b.length 0 b (Nat.le_refl _) hb h

theorem decL_length (b : List Nat) : (decL b).length ≤ b.length := by
  have := cut_length 0 b
  simpa [decL] using this

def wanted (l : List Int) : List Int := l.map fun r => ((fixN r : Nat) : Int)
theorem wanted_take {l : List Int} {i : Nat} (h : i < l.length) : wanted (l.take (i + 1)) = wanted (l.take i) ++ [((fixN l[i] : Nat) : Int)] := by
  rw [List.take_succ_eq_append_getElem h]
  simp only [wanted, List.map_append, List.map_cons, List.map_nil]

set_option maxRecDepth 10000 in
theorem utfBack_pure (l : List Int) (hl : Runes l) (b : List Nat) (hb : Octs b) : Pure Try.prog 7 [.sl 21 (runes l) none, .sl 5 (octs b) none] [] (.lit (.bool true)) := by
  refine pure0 Try.func7 c7 n7 e7 r7 (by simp) rfl ?_
  simp only [a7, astart, argSlots, go_sem, Nat.reduceAdd, Nat.reduceEqDiff, Nat.reduceLT, reduceIte, reduceCtorEq, Nat.reduceBEq, Int.reduceLT, Int.reduceToNat, Int.reducePow, Nat.reduceLeDiff, Int.reduceLE, Nat.reduceMul, Nat.reduceSub]
  by_cases h1 : l.length > 300
  · have d1 : decide ((l.length : Int) > 300) = true := by simp only [decide_eq_true_eq]; omega
    simp only [d1, go_sem, Nat.reduceAdd, Nat.reduceEqDiff, Nat.reduceLT, reduceIte, reduceCtorEq, Nat.reduceBEq, Int.reduceLT, Int.reduceToNat, Int.reducePow, Nat.reduceLeDiff, Int.reduceLE, Nat.reduceMul, Nat.reduceSub]
    refine callGo_pure awake01_pure (by rfl) ?_
    simp only [go_sem, Nat.reduceAdd, Nat.reduceEqDiff, Nat.reduceLT, reduceIte, reduceCtorEq, Nat.reduceBEq, Int.reduceLT, Int.reduceToNat, Int.reducePow, Nat.reduceLeDiff, Int.reduceLE, Nat.reduceMul, Nat.reduceSub]
    simp only [Done, resAV, resL, resOne, look_nil, look_cons, Nat.reduceEqDiff, if_true, if_false, reduceIte, ite_true, ite_false, Nat.zero_ne_one, Nat.one_ne_zero, reduceCtorEq, true_or, or_true, true_and, Option.some.injEq, AV.lit.injEq, Value.int.injEq, Value.bool.injEq]
  have d1 : decide ((l.length : Int) > 300) = false := by simp only [decide_eq_false_iff_not]; omega
  simp only [d1, go_sem, Nat.reduceAdd, Nat.reduceEqDiff, Nat.reduceLT, reduceIte, reduceCtorEq, Nat.reduceBEq, Int.reduceLT, Int.reduceToNat, Int.reducePow, Nat.reduceLeDiff, Int.reduceLE, Nat.reduceMul, Nat.reduceSub]
  by_cases h2 : b.length > 500
  · have d2 : decide ((b.length : Int) > 500) = true := by simp only [decide_eq_true_eq]; omega
    simp only [d2, go_sem, Nat.reduceAdd, Nat.reduceEqDiff, Nat.reduceLT, reduceIte, reduceCtorEq, Nat.reduceBEq, Int.reduceLT, Int.reduceToNat, Int.reducePow, Nat.reduceLeDiff, Int.reduceLE, Nat.reduceMul, Nat.reduceSub]
    refine callGo_pure awake01_pure (by rfl) ?_
    simp only [go_sem, Nat.reduceAdd, Nat.reduceEqDiff, Nat.reduceLT, reduceIte, reduceCtorEq, Nat.reduceBEq, Int.reduceLT, Int.reduceToNat, Int.reducePow, Nat.reduceLeDiff, Int.reduceLE, Nat.reduceMul, Nat.reduceSub]
    simp only [Done, resAV, resL, resOne, look_nil, look_cons, Nat.reduceEqDiff, if_true, if_false, reduceIte, ite_true, ite_false, Nat.zero_ne_one, Nat.one_ne_zero, reduceCtorEq, true_or, or_true, true_and, Option.some.injEq, AV.lit.injEq, Value.int.injEq, Value.bool.injEq]
  have d2 : decide ((b.length : Int) > 500) = false := by simp only [decide_eq_false_iff_not]; omega
  simp only [d2, go_sem, Nat.reduceAdd, Nat.reduceEqDiff, Nat.reduceLT, reduceIte, reduceCtorEq, Nat.reduceBEq, Int.reduceLT, Int.reduceToNat, Int.reducePow, Nat.reduceLeDiff, Int.reduceLE, Nat.reduceMul, Nat.reduceSub]
  refine loop_to l.length (fun i => ⟨[(0, some (.sl 21 (runes l) none)), (1, some (.sl 5 (octs b) none)), (5, some (.sl 21 (runes (wanted (l.take i))) (some 0))), (19, some (.sl 21 (runes l) none)), (20, some (.lit (.int .i64 (l.length : Int)))), (21, some (.lit (.int .i64 (i : Int))))], [], [(0, 21)], 1⟩)
    (fun _ => True) ((weak_nil 5 21 (by simp only [go_sem, Nat.reduceAdd, Nat.reduceEqDiff, Nat.reduceLT, reduceIte, reduceCtorEq, Nat.reduceBEq, Int.reduceLT, Int.reduceToNat, Int.reducePow, Nat.reduceLeDiff, Int.reduceLE, Nat.reduceMul, Nat.reduceSub])).trans (weak_by [0] (by simp) rfl ?_ trivial ?_ (by simp))) trivial ?_ ?_
  · simp only [go_sem, Nat.reduceAdd, Nat.reduceEqDiff, Nat.reduceLT, reduceIte, reduceCtorEq, Nat.reduceBEq, Int.reduceLT, Int.reduceToNat, Int.reducePow, Nat.reduceLeDiff, Int.reduceLE, Nat.reduceMul, Nat.reduceSub, slotsBy, boxesBy, tipsBy, rawAt, nm, AV.ren, AV.renL, AV.under, AV.underL, List.all_nil, List.all_cons, bne_self_eq_false, List.getD_cons_zero, List.getD_cons_succ, List.length_nil, List.length_cons, and_true, true_and, Int.natCast_zero, wanted, List.map_nil]
    simp [runes]
  · simp only [go_sem, Nat.reduceAdd, Nat.reduceEqDiff, Nat.reduceLT, reduceIte, reduceCtorEq, Nat.reduceBEq, Int.reduceLT, Int.reduceToNat, Int.reducePow, Nat.reduceLeDiff, Int.reduceLE, Nat.reduceMul, Nat.reduceSub, slotsBy, boxesBy, tipsBy, rawAt, nm, AV.ren, AV.renL, AV.under, AV.underL, List.all_nil, List.all_cons, bne_self_eq_false, List.getD_cons_zero, List.getD_cons_succ, List.length_nil, List.length_cons, and_true, true_and, beq_self_eq_true]
  · intro i hi _
    have hs := wanted_take hi
    have hlen : (wanted (l.take i)).length ≤ 300 := by simp only [wanted, List.length_map, List.length_take]; omega
    simp only [go_sem, Nat.reduceAdd, Nat.reduceEqDiff, Nat.reduceLT, reduceIte, reduceCtorEq, Nat.reduceBEq, Int.reduceLT, Int.reduceToNat, Int.reducePow, Nat.reduceLeDiff, Int.reduceLE, Nat.reduceMul, Nat.reduceSub, dec_lt hi, runes_get l i hi]
    refine callGo_pure (scalar_pure _) (by rfl) ?_
    simp only [go_sem, Nat.reduceAdd, Nat.reduceEqDiff, Nat.reduceLT, reduceIte, reduceCtorEq, Nat.reduceBEq, Int.reduceLT, Int.reduceToNat, Int.reducePow, Nat.reduceLeDiff, Int.reduceLE, Nat.reduceMul, Nat.reduceSub]
    by_cases h : scalarB l[i] = true
    · have hf : ((fixN l[i] : Nat) : Int) = l[i] := fixN_of h
      rw [hf] at hs
      simp only [h, go_sem, Nat.reduceAdd, Nat.reduceEqDiff, Nat.reduceLT, reduceIte, reduceCtorEq, Nat.reduceBEq, Int.reduceLT, Int.reduceToNat, Int.reducePow, Nat.reduceLeDiff, Int.reduceLE, Nat.reduceMul, Nat.reduceSub]
      refine ⟨by omega, ?_⟩
      simp (disch := omega) only [wrap_i64]
      refine weak_by [2] (by simp) rfl ?_ trivial ?_ (by simp)
      · simp only [go_sem, Nat.reduceAdd, Nat.reduceEqDiff, Nat.reduceLT, reduceIte, reduceCtorEq, Nat.reduceBEq, Int.reduceLT, Int.reduceToNat, Int.reducePow, Nat.reduceLeDiff, Int.reduceLE, Nat.reduceMul, Nat.reduceSub, slotsBy, boxesBy, tipsBy, rawAt, nm, AV.ren, AV.renL, AV.under, AV.underL, List.all_nil, List.all_cons, bne_self_eq_false, List.getD_cons_zero, List.getD_cons_succ, List.length_nil, List.length_cons, and_true, true_and, hs, Int.natCast_add, Int.natCast_one, runes_append]
        simp [runes]
      · simp only [go_sem, Nat.reduceAdd, Nat.reduceEqDiff, Nat.reduceLT, reduceIte, reduceCtorEq, Nat.reduceBEq, Int.reduceLT, Int.reduceToNat, Int.reducePow, Nat.reduceLeDiff, Int.reduceLE, Nat.reduceMul, Nat.reduceSub, slotsBy, boxesBy, tipsBy, rawAt, nm, AV.ren, AV.renL, AV.under, AV.underL, List.all_nil, List.all_cons, bne_self_eq_false, List.getD_cons_zero, List.getD_cons_succ, List.length_nil, List.length_cons, and_true, true_and, beq_self_eq_true]
    · have h : scalarB l[i] = false := by simpa using h
      have hf : ((fixN l[i] : Nat) : Int) = 65533 := by simp only [fixN, h, Bool.false_eq_true, if_false]; rfl
      rw [hf] at hs
      simp only [h, go_sem, Nat.reduceAdd, Nat.reduceEqDiff, Nat.reduceLT, reduceIte, reduceCtorEq, Nat.reduceBEq, Int.reduceLT, Int.reduceToNat, Int.reducePow, Nat.reduceLeDiff, Int.reduceLE, Nat.reduceMul, Nat.reduceSub]
      refine ⟨by omega, ?_⟩
      simp (disch := omega) only [wrap_i64]
      refine weak_by [2] (by simp) rfl ?_ trivial ?_ (by simp)
      · simp only [go_sem, Nat.reduceAdd, Nat.reduceEqDiff, Nat.reduceLT, reduceIte, reduceCtorEq, Nat.reduceBEq, Int.reduceLT, Int.reduceToNat, Int.reducePow, Nat.reduceLeDiff, Int.reduceLE, Nat.reduceMul, Nat.reduceSub, slotsBy, boxesBy, tipsBy, rawAt, nm, AV.ren, AV.renL, AV.under, AV.underL, List.all_nil, List.all_cons, bne_self_eq_false, List.getD_cons_zero, List.getD_cons_succ, List.length_nil, List.length_cons, and_true, true_and, hs, Int.natCast_add, Int.natCast_one, runes_append]
        simp [runes]
      · simp only [go_sem, Nat.reduceAdd, Nat.reduceEqDiff, Nat.reduceLT, reduceIte, reduceCtorEq, Nat.reduceBEq, Int.reduceLT, Int.reduceToNat, Int.reducePow, Nat.reduceLeDiff, Int.reduceLE, Nat.reduceMul, Nat.reduceSub, slotsBy, boxesBy, tipsBy, rawAt, nm, AV.ren, AV.renL, AV.under, AV.underL, List.all_nil, List.all_cons, bne_self_eq_false, List.getD_cons_zero, List.getD_cons_succ, List.length_nil, List.length_cons, and_true, true_and, beq_self_eq_true]
  · intro _
    simp only [dec_irr, List.take_length, go_sem, Nat.reduceAdd, Nat.reduceEqDiff, Nat.reduceLT, reduceIte, reduceCtorEq, Nat.reduceBEq, Int.reduceLT, Int.reduceToNat, Int.reducePow, Nat.reduceLeDiff, Int.reduceLE, Nat.reduceMul, Nat.reduceSub]
    have hle := encL_length l
    have hdl := decL_length b
    have hel := encL_length (decL b)
    have hoe := encL_octs l
    have hoc := encL_octs (decL b)
    refine callGo_pure (encode_pure l (by omega)) (by rfl) ?_
    simp only [go_sem, Nat.reduceAdd, Nat.reduceEqDiff, Nat.reduceLT, reduceIte, reduceCtorEq, Nat.reduceBEq, Int.reduceLT, Int.reduceToNat, Int.reducePow, Nat.reduceLeDiff, Int.reduceLE, Nat.reduceMul, Nat.reduceSub]
    refine callGo_pure (decode_pure b hb.2 (by omega)) (by rfl) ?_
    simp only [go_sem, Nat.reduceAdd, Nat.reduceEqDiff, Nat.reduceLT, reduceIte, reduceCtorEq, Nat.reduceBEq, Int.reduceLT, Int.reduceToNat, Int.reducePow, Nat.reduceLeDiff, Int.reduceLE, Nat.reduceMul, Nat.reduceSub]
    refine callGo_pure (encode_pure (decL b) (by omega)) (by rfl) ?_
    simp only [go_sem, Nat.reduceAdd, Nat.reduceEqDiff, Nat.reduceLT, reduceIte, reduceCtorEq, Nat.reduceBEq, Int.reduceLT, Int.reduceToNat, Int.reducePow, Nat.reduceLeDiff, Int.reduceLE, Nat.reduceMul, Nat.reduceSub]
    refine callGo_pure (valid_pure (encL l) hoe (by omega)) (by rfl) ?_
    simp only [go_sem, Nat.reduceAdd, Nat.reduceEqDiff, Nat.reduceLT, reduceIte, reduceCtorEq, Nat.reduceBEq, Int.reduceLT, Int.reduceToNat, Int.reducePow, Nat.reduceLeDiff, Int.reduceLE, Nat.reduceMul, Nat.reduceSub, valid_enc]
    refine callGo_pure (decode_pure (encL l) hoe (by omega)) (by rfl) ?_
    simp only [go_sem, Nat.reduceAdd, Nat.reduceEqDiff, Nat.reduceLT, reduceIte, reduceCtorEq, Nat.reduceBEq, Int.reduceLT, Int.reduceToNat, Int.reducePow, Nat.reduceLeDiff, Int.reduceLE, Nat.reduceMul, Nat.reduceSub, dec_enc]
    refine callGo_pure (runesSame_pure (wanted l) (wanted l) (by simp only [wanted, List.length_map]; omega)) (by rfl) ?_
    simp only [go_sem, Nat.reduceAdd, Nat.reduceEqDiff, Nat.reduceLT, reduceIte, reduceCtorEq, Nat.reduceBEq, Int.reduceLT, Int.reduceToNat, Int.reducePow, Nat.reduceLeDiff, Int.reduceLE, Nat.reduceMul, Nat.reduceSub, beq_self_eq_true]
    refine callGo_pure (same_pure _ _ hoc hb.2) (by rfl) ?_
    simp only [go_sem, Nat.reduceAdd, Nat.reduceEqDiff, Nat.reduceLT, reduceIte, reduceCtorEq, Nat.reduceBEq, Int.reduceLT, Int.reduceToNat, Int.reducePow, Nat.reduceLeDiff, Int.reduceLE, Nat.reduceMul, Nat.reduceSub, enc_dec b hb.2]
    refine callGo_pure (valid_pure b hb.2 (by omega)) (by rfl) ?_
    simp only [go_sem, Nat.reduceAdd, Nat.reduceEqDiff, Nat.reduceLT, reduceIte, reduceCtorEq, Nat.reduceBEq, Int.reduceLT, Int.reduceToNat, Int.reducePow, Nat.reduceLeDiff, Int.reduceLE, Nat.reduceMul, Nat.reduceSub, beq_self_eq_true]
    refine callGo_pure (valid_pure (encL (decL b)) hoc (by omega)) (by rfl) ?_
    simp only [go_sem, Nat.reduceAdd, Nat.reduceEqDiff, Nat.reduceLT, reduceIte, reduceCtorEq, Nat.reduceBEq, Int.reduceLT, Int.reduceToNat, Int.reducePow, Nat.reduceLeDiff, Int.reduceLE, Nat.reduceMul, Nat.reduceSub, valid_enc]
    refine callGo_pure awake01_pure (by rfl) ?_
    simp only [go_sem, Nat.reduceAdd, Nat.reduceEqDiff, Nat.reduceLT, reduceIte, reduceCtorEq, Nat.reduceBEq, Int.reduceLT, Int.reduceToNat, Int.reducePow, Nat.reduceLeDiff, Int.reduceLE, Nat.reduceMul, Nat.reduceSub]
    simp only [Done, resAV, resL, resOne, look_nil, look_cons, Nat.reduceEqDiff, if_true, if_false, reduceIte, ite_true, ite_false, Nat.zero_ne_one, Nat.one_ne_zero, reduceCtorEq, true_or, or_true, true_and, Option.some.injEq, AV.lit.injEq, Value.int.injEq, Value.bool.injEq]

theorem utfBack_any (avs : List AV) (h : Args Try.prog Try.f7.params.toList avs) : Pure Try.prog 7 avs [] (.lit (.bool true)) := by
  have hp : Try.f7.params.toList = [28, 22] := by kernel_rfl
  rw [hp] at h
  obtain ⟨av0, rest0, rfl, a0, h0⟩ := h
  obtain ⟨av1, rest1, rfl, a1, rfl⟩ := h0
  obtain ⟨z0, rfl, w0, s0⟩ := arg_ints (e := 21) (k := .i32) (by kernel_rfl) (by kernel_rfl) a0
  rw [show Try.prog.bytesOf 21 = 4 from by kernel_rfl] at s0
  obtain ⟨z1, rfl, w1, s1⟩ := arg_ints (e := 5) (k := .u8) (by kernel_rfl) (by kernel_rfl) a1
  rw [show Try.prog.bytesOf 5 = 1 from by kernel_rfl] at s1
  obtain ⟨y1, e1, v1, k1⟩ := octs_of z1 (fun n hn => by simpa [Lit.wf, IntKind.min, IntKind.max, IntKind.signed, IntKind.bits] using w1 n hn)
  rw [e1]
  exact utfBack_pure z0 ⟨by omega, fun n hn => by simpa [Lit.wf, IntKind.min, IntKind.max, IntKind.signed, IntKind.bits] using w0 n hn⟩ y1 ⟨by omega, v1⟩

set_option maxRecDepth 100000 in
theorem utfBack_lifted (os : Os) (started : os.Started) (H : Type) (enc : TypeId × Value → H) :
    ReturnsInHanded {} Try.checked os 7 .any (Rows.utfBackSpec.pre6 enc Try.prog Try.f7 Rows.utfBackRow.domain false) (Rows.utfBackSpec.post enc Try.prog Try.f7 false true false false) := by
  refine law_returns (C := Try.checked) (tb := 4) (by kernel_rfl) started (by kernel_rfl) Try.func7
    (ChangeSpec.witness6 (enc := enc) (C := Try.checked) false ⟨#[], #[.slice none 0 0, .slice none 0 0], []⟩ 8 (by kernel_rfl) (by kernel_rfl) (by kernel_rfl) (by kernel_rfl))
    (by kernel_rfl) (by kernel_rfl) rfl rfl (by kernel_rfl) (by kernel_rfl) ?_ utfBack_any
  intro ds hds
  have hp : Try.f7.params.toList = [28, 22] := by kernel_rfl
  rw [hp] at hds
  match ds, hds with
  | [d0, d1], _ => exact ⟨rfl, rfl, rfl⟩

theorem utfBack_holds : Rows.UtfBackSaid :=
  OpenClaim.holds_of_wide 7 Try.f7 rfl rfl rfl rfl rfl rfl rfl ⟨rfl, rfl, rfl, rfl, rfl⟩ rfl rfl rfl rfl rfl (by kernel_rfl) Try.func7 (by kernel_rfl)
    (of_decide_eq_true (by kernel_rfl)) (by unfold Func.isWrapper; first | (rw [if_pos (by decide +kernel)]; kernel_rfl) | (rw [if_neg (by decide +kernel)]; exact ⟨rfl, rfl⟩))
    (fun os started H enc _ => utfBack_lifted os started H enc)
end Go.Proofs.Ytbnaepdeakcljaa
