/-
SafeOne, whole. Conditions: none.
-/
import Derived.Test.YteekelelcbfekaaDoorSafQ
set_option linter.unusedSimpArgs false
set_option linter.unusedVariables false
set_option linter.unusedSectionVars false
namespace Go.Proofs.YteekelelcbfekaaDoor
open Go Go.Ab

theorem whole_of {a : List Nat} (h : ¬ (0 ≤ lastIx 37 a ∧ (a.length : Int) - lastIx 37 a < 3)) : Whole a := fun p hp hl e => by
  have := lastIx_get (b := a) (p := p) (c := 37) (by rw [List.getElem?_eq_getElem hp, e])
  omega
theorem encS_one (r : Int) : encS (alsoOf 1) [r] = encS1 [] r := by
  have : alsoOf 1 = [] := rfl
  rw [this]; simp [encS]
theorem stands_one {r : Nat} (hr : Scalar r) {f : Nat → Nat} (hf : f = id ∨ f = lowN) : Stands ((encS (alsoOf 1) [(r : Int)]).map f) r := by
  have hfix : fixN (r : Int) = r := by
    unfold fixN
    have hs : scalarB (r : Int) = true := by
      unfold scalarB
      unfold Scalar at hr
      simp only [Bool.and_eq_true, Bool.or_eq_true, decide_eq_true_eq]
      omega
    rw [if_pos hs]; simp
  have hby := encS_by (alsoOf 1) [(r : Int)]
  have hle : ∀ c ∈ (encS (alsoOf 1) [(r : Int)]).map f, c ≤ 127 := fun c hc => by
    obtain ⟨n, hn, rfl⟩ := List.mem_map.1 hc
    have := hby n hn
    rcases hf with rfl | rfl
    · simp; omega
    · unfold lowN; split <;> omega
  have hlen := encS1_len [] (r : Int)
  have h37 : f 37 = 37 := by rcases hf with rfl | rfl <;> rfl
  have hfh : ∀ v, v < 16 → hexOf (f (upH v)) = some v := fun v hv => by
    rcases hf with rfl | rfl
    · exact upH_hex hv
    · exact hex_upH_low hv
  refine ⟨hle, by rw [List.length_map, encS_one]; exact hlen, ?_⟩
  rw [encS_one]
  unfold encS1
  split
  · left
    rw [hfix]
    have hr2 : r ≤ 1114111 := by unfold Scalar at hr; omega
    exact ⟨dec_codes h37 hfh _ (encN_octs hr2), by rw [List.length_map, pctC_len]⟩
  · rename_i hin
    right
    unfold inS at hin
    simp only [Bool.or_eq_true, decide_eq_true_eq, not_or] at hin
    refine ⟨by omega, f r, by simp, ?_⟩
    omega

set_option maxRecDepth 10000 in
set_option maxHeartbeats 1000000 in
theorem one_mid {r : Nat} (hr : Scalar r) {a z : List Nat} {small : Bool} (hw : Whole a) (ha : ∀ c ∈ a, c ≤ 127) (hz : ∀ c ∈ z, c ≤ 127) (hal : a.length ≤ 30) (hzl : z.length ≤ 30)
    (c2 : binStr .add (txt a) ⟨#[37]⟩ = some (.string (txt (a ++ [37])))) (c3 : binStr .add (txt (a ++ [37])) (txt z) = some (.string (txt (a ++ [37] ++ z))))
    {sl : List (Nat × Option AV)} {nx : Nat} (h0 : Ab.look sl 0 = some (.lit (.int .i32 (r : Int)))) (h1 : Ab.look sl 1 = some (.lit (.string (txt a)))) (h2 : Ab.look sl 2 = some (.lit (.string (txt z)))) (h3 : Ab.look sl 3 = some (.lit (.bool small))) :
    awp Tryd.prog 0 a3_3 (fun e s => Done Tryd.prog [.tmp 8] (.lit (.bool true)) e s) ⟨sl, [], [], nx⟩ := by
  obtain ⟨D, hD⟩ : ∃ D, D = decP (a ++ [37] ++ z) := ⟨_, rfl⟩
  have hX : ∀ n ∈ a ++ [37] ++ z, n ≤ 255 := fun n hn => by
    rcases List.mem_append.1 hn with hn | hn
    · rcases List.mem_append.1 hn with hn | hn
      · have := ha n hn; omega
      · simp at hn; omega
    · have := hz n hn; omega
  have hXl : (a ++ [37] ++ z).length ≤ 61 := by simp only [List.length_append, List.length_singleton]; omega
  have hdl : D.length ≤ 61 := by rw [hD]; exact Nat.le_trans (decP_length _) hXl
  simp only [a3_3, h1, h2, c2, c3, go_sem, Nat.reduceAdd, Nat.reduceEqDiff, Nat.reduceLT, reduceIte, reduceCtorEq, Nat.reduceBEq, Int.reduceLT, Int.reduceToNat, Int.reducePow, Nat.reduceLeDiff, Int.reduceLE, Nat.reduceMul, Nat.reduceSub]
  refine callGo_pure (pctDecode_pure (a ++ [37] ++ z) hX (by omega)) (by rfl) ?_
  rw [← hD]
  simp only [octs_length, go_sem, Nat.reduceAdd, Nat.reduceEqDiff, Nat.reduceLT, reduceIte, reduceCtorEq, Nat.reduceBEq, Int.reduceLT, Int.reduceToNat, Int.reducePow, Nat.reduceLeDiff, Int.reduceLE, Nat.reduceMul, Nat.reduceSub]
  refine loop_by (α := Nat) (fun i => ⟨[(0, some (.lit (.int .i32 (r : Int)))), (1, some (.lit (.string (txt a)))), (2, some (.lit (.string (txt z)))), (3, some (.lit (.bool small))), (53, some (.sl 5 (octs D) none)), (54, some (.lit (.int .i64 (D.length : Int)))), (55, some (.lit (.int .i64 (i : Int))))], [], [], nx + 1⟩)
    (fun i => i ≤ D.length ∧ ∀ c ∈ D.take i, c ≤ 127) (fun i => D.length - i) (fun x y h => by
      have := congrArg (cnt 55) h
      simp [cnt, Ab.look] at this
      rw [this]) 0 ((weak_untip 53 (e := 5) (els := octs D) (tip := some nx) (by simp only [go_sem, Nat.reduceAdd, Nat.reduceEqDiff, Nat.reduceLT, reduceIte, reduceCtorEq, Nat.reduceBEq, Int.reduceLT, Int.reduceToNat, Int.reducePow, Nat.reduceLeDiff, Int.reduceLE, Nat.reduceMul, Nat.reduceSub])).trans (weak_forget ?_ (List.Sublist.refl _) (List.nil_sublist _))) ⟨Nat.zero_le _, by simp⟩ ?_
  · simp only [h0, h1, h2, h3, go_sem, Nat.reduceAdd, Nat.reduceEqDiff, Nat.reduceLT, reduceIte, reduceCtorEq, Nat.reduceBEq, Int.reduceLT, Int.reduceToNat, Int.reducePow, Nat.reduceLeDiff, Int.reduceLE, Nat.reduceMul, Nat.reduceSub, slotsBy, boxesBy, tipsBy, rawAt, nm, AV.ren, AV.renL, AV.under, AV.underL, List.all_nil, List.all_cons, bne_self_eq_false, List.getD_cons_zero, List.getD_cons_succ, List.length_nil, List.length_cons, and_true, true_and, slotsSub, Int.natCast_zero]
  · rintro i ⟨g1, g2⟩
    simp only [go_sem, Nat.reduceAdd, Nat.reduceEqDiff, Nat.reduceLT, reduceIte, reduceCtorEq, Nat.reduceBEq, Int.reduceLT, Int.reduceToNat, Int.reducePow, Nat.reduceLeDiff, Int.reduceLE, Nat.reduceMul, Nat.reduceSub]
    rcases Nat.lt_or_eq_of_le g1 with hlt | heq
    · have w : IntKind.i64.wrap ((i : Int) + 1) = ((i + 1 : Nat) : Int) := by rw [wrap_i64 _ (by omega) (by omega)]; omega
      have hx := octs_get D i hlt
      have htk : D.take (i + 1) = D.take i ++ [D[i]] := List.take_succ_eq_append_getElem hlt
      simp only [dec_lt hlt, hx, go_sem, Nat.reduceAdd, Nat.reduceEqDiff, Nat.reduceLT, reduceIte, reduceCtorEq, Nat.reduceBEq, Int.reduceLT, Int.reduceToNat, Int.reducePow, Nat.reduceLeDiff, Int.reduceLE, Nat.reduceMul, Nat.reduceSub]
      generalize D[i] = c at *
      by_cases hc : c ≤ 127
      · have d1 : decide ((c : Int) > 127) = false := by simp; omega
        simp only [d1, w, go_sem, Nat.reduceAdd, Nat.reduceEqDiff, Nat.reduceLT, reduceIte, reduceCtorEq, Nat.reduceBEq, Int.reduceLT, Int.reduceToNat, Int.reducePow, Nat.reduceLeDiff, Int.reduceLE, Nat.reduceMul, Nat.reduceSub]
        refine ⟨i + 1, weak_forget ?_ (List.Sublist.refl _) (List.Sublist.refl _), ⟨hlt, fun x hx => ?_⟩, by omega⟩
        · simp only [go_sem, Nat.reduceAdd, Nat.reduceEqDiff, Nat.reduceLT, reduceIte, reduceCtorEq, Nat.reduceBEq, Int.reduceLT, Int.reduceToNat, Int.reducePow, Nat.reduceLeDiff, Int.reduceLE, Nat.reduceMul, Nat.reduceSub, slotsBy, boxesBy, tipsBy, rawAt, nm, AV.ren, AV.renL, AV.under, AV.underL, List.all_nil, List.all_cons, bne_self_eq_false, List.getD_cons_zero, List.getD_cons_succ, List.length_nil, List.length_cons, and_true, true_and, slotsSub]
        · rw [htk] at hx
          rcases List.mem_append.1 hx with hx | hx
          · exact g2 x hx
          · simp at hx; omega
      · have d1 : decide ((c : Int) > 127) = true := by simp; omega
        simp only [d1, go_sem, Nat.reduceAdd, Nat.reduceEqDiff, Nat.reduceLT, reduceIte, reduceCtorEq, Nat.reduceBEq, Int.reduceLT, Int.reduceToNat, Int.reducePow, Nat.reduceLeDiff, Int.reduceLE, Nat.reduceMul, Nat.reduceSub]
        refine callGo_pure awake25_pure (by rfl) ?_
        simp only [go_sem, Nat.reduceAdd, Nat.reduceEqDiff, Nat.reduceLT, reduceIte, reduceCtorEq, Nat.reduceBEq, Int.reduceLT, Int.reduceToNat, Int.reducePow, Nat.reduceLeDiff, Int.reduceLE, Nat.reduceMul, Nat.reduceSub]
        simp only [Done, resAV, resL, resOne, look_nil, look_cons, Nat.reduceEqDiff, if_true, if_false, reduceIte, ite_true, ite_false, Nat.zero_ne_one, Nat.one_ne_zero, reduceCtorEq, true_or, or_true, true_and, Option.some.injEq, AV.lit.injEq, Value.int.injEq, Value.bool.injEq]
    · subst heq
      rw [List.take_length] at g2
      rw [hD] at g2
      simp only [dec_irr, go_sem, Nat.reduceAdd, Nat.reduceEqDiff, Nat.reduceLT, reduceIte, reduceCtorEq, Nat.reduceBEq, Int.reduceLT, Int.reduceToNat, Int.reducePow, Nat.reduceLeDiff, Int.reduceLE, Nat.reduceMul, Nat.reduceSub]
      refine callGo_pure (pctEncode_pure (s := 1) (.inl rfl) [(r : Int)] (by simp)) (by rfl) ?_
      have q1 := stands_one hr (f := id) (.inl rfl)
      have q2 := stands_one hr (f := lowN) (.inr rfl)
      rw [List.map_id] at q1
      have hby := encS_by (alsoOf 1) [(r : Int)]
      have hql := q1.2.1
      generalize encS (alsoOf 1) [(r : Int)] = q at *
      simp only [bne_self_eq_false, go_sem, Nat.reduceAdd, Nat.reduceEqDiff, Nat.reduceLT, reduceIte, reduceCtorEq, Nat.reduceBEq, Int.reduceLT, Int.reduceToNat, Int.reducePow, Nat.reduceLeDiff, Int.reduceLE, Nat.reduceMul, Nat.reduceSub]
      cases small with
      | false =>
        simp only [go_sem, Nat.reduceAdd, Nat.reduceEqDiff, Nat.reduceLT, reduceIte, reduceCtorEq, Nat.reduceBEq, Int.reduceLT, Int.reduceToNat, Int.reducePow, Nat.reduceLeDiff, Int.reduceLE, Nat.reduceMul, Nat.reduceSub]
        exact one_tail hr q1 hw ha hz hal hzl g2 (by simp only [Ab.look, Nat.reduceEqDiff, if_true, if_false]) (by simp only [Ab.look, Nat.reduceEqDiff, if_true, if_false]) (by simp only [Ab.look, Nat.reduceEqDiff, if_true, if_false]) (by simp only [Ab.look, Nat.reduceEqDiff, if_true, if_false])
      | true =>
        simp only [go_sem, Nat.reduceAdd, Nat.reduceEqDiff, Nat.reduceLT, reduceIte, reduceCtorEq, Nat.reduceBEq, Int.reduceLT, Int.reduceToNat, Int.reducePow, Nat.reduceLeDiff, Int.reduceLE, Nat.reduceMul, Nat.reduceSub]
        refine callGo_pure (toLower_pure q (fun c hc => by have := hby c hc; omega) (by omega)) (by rfl) ?_
        simp only [go_sem, Nat.reduceAdd, Nat.reduceEqDiff, Nat.reduceLT, reduceIte, reduceCtorEq, Nat.reduceBEq, Int.reduceLT, Int.reduceToNat, Int.reducePow, Nat.reduceLeDiff, Int.reduceLE, Nat.reduceMul, Nat.reduceSub]
        exact one_tail hr q2 hw ha hz hal hzl g2 (by simp only [Ab.look, Nat.reduceEqDiff, if_true, if_false]) (by simp only [Ab.look, Nat.reduceEqDiff, if_true, if_false]) (by simp only [Ab.look, Nat.reduceEqDiff, if_true, if_false]) (by simp only [Ab.look, Nat.reduceEqDiff, if_true, if_false])

set_option maxRecDepth 10000 in
set_option maxHeartbeats 1000000 in
theorem safeOne_pure (ri : Int) (hri : -2147483648 ≤ ri ∧ ri ≤ 2147483647) (sa : ByteArray) (hsa : sa.size ≤ 140737488351232) (sb : ByteArray) (hsb : sb.size ≤ 140737488351232) (small : Bool) : Pure Tryd.prog 3 [.lit (.int .i32 ri), .lit (.string sa), .lit (.string sb), .lit (.bool small)] [] (.lit (.bool true)) := by
  obtain ⟨a, rfl, ha255, hal⟩ := txt_of sa
  obtain ⟨z, rfl, hz255, hzl⟩ := txt_of sb
  rw [← hal] at hsa
  rw [← hzl] at hsb
  refine pure0 Tryd.func3 c3 n3 e3 r3 (by simp) (by rfl) ?_
  simp only [a3, astart, argSlots, go_sem, Nat.reduceAdd, Nat.reduceEqDiff, Nat.reduceLT, reduceIte, reduceCtorEq, Nat.reduceBEq, Int.reduceLT, Int.reduceToNat, Int.reducePow, Nat.reduceLeDiff, Int.reduceLE, Nat.reduceMul, Nat.reduceSub]
  refine callGo_pure (scalar_pure ri) (by rfl) ?_
  cases hsc : scalarB ri with
  | false =>
    simp only [Bool.not_false, go_sem, Nat.reduceAdd, Nat.reduceEqDiff, Nat.reduceLT, reduceIte, reduceCtorEq, Nat.reduceBEq, Int.reduceLT, Int.reduceToNat, Int.reducePow, Nat.reduceLeDiff, Int.reduceLE, Nat.reduceMul, Nat.reduceSub]
    refine callGo_pure awake25_pure (by rfl) ?_
    simp only [go_sem, Nat.reduceAdd, Nat.reduceEqDiff, Nat.reduceLT, reduceIte, reduceCtorEq, Nat.reduceBEq, Int.reduceLT, Int.reduceToNat, Int.reducePow, Nat.reduceLeDiff, Int.reduceLE, Nat.reduceMul, Nat.reduceSub]
    simp only [Done, resAV, resL, resOne, look_nil, look_cons, Nat.reduceEqDiff, if_true, if_false, reduceIte, ite_true, ite_false, Nat.zero_ne_one, Nat.one_ne_zero, reduceCtorEq, true_or, or_true, true_and, Option.some.injEq, AV.lit.injEq, Value.int.injEq, Value.bool.injEq]
  | true =>
    obtain ⟨r, rfl, hr⟩ : ∃ r : Nat, ri = (r : Int) ∧ Scalar r := by
      unfold scalarB at hsc
      simp only [Bool.and_eq_true, Bool.or_eq_true, decide_eq_true_eq] at hsc
      refine ⟨ri.toNat, by omega, ?_⟩
      unfold Scalar; omega
    by_cases h1 : 30 < a.length
    · have d1 : decide ((a.length : Int) > 30) = true := by simp; omega
      simp only [Bool.not_true, d1, txt_size, go_sem, Nat.reduceAdd, Nat.reduceEqDiff, Nat.reduceLT, reduceIte, reduceCtorEq, Nat.reduceBEq, Int.reduceLT, Int.reduceToNat, Int.reducePow, Nat.reduceLeDiff, Int.reduceLE, Nat.reduceMul, Nat.reduceSub]
      refine callGo_pure awake25_pure (by rfl) ?_
      simp only [go_sem, Nat.reduceAdd, Nat.reduceEqDiff, Nat.reduceLT, reduceIte, reduceCtorEq, Nat.reduceBEq, Int.reduceLT, Int.reduceToNat, Int.reducePow, Nat.reduceLeDiff, Int.reduceLE, Nat.reduceMul, Nat.reduceSub]
      simp only [Done, resAV, resL, resOne, look_nil, look_cons, Nat.reduceEqDiff, if_true, if_false, reduceIte, ite_true, ite_false, Nat.zero_ne_one, Nat.one_ne_zero, reduceCtorEq, true_or, or_true, true_and, Option.some.injEq, AV.lit.injEq, Value.int.injEq, Value.bool.injEq]
    have d1 : decide ((a.length : Int) > 30) = false := by simp; omega
    by_cases h2 : 30 < z.length
    · have d2 : decide ((z.length : Int) > 30) = true := by simp; omega
      simp only [Bool.not_true, d1, d2, txt_size, go_sem, Nat.reduceAdd, Nat.reduceEqDiff, Nat.reduceLT, reduceIte, reduceCtorEq, Nat.reduceBEq, Int.reduceLT, Int.reduceToNat, Int.reducePow, Nat.reduceLeDiff, Int.reduceLE, Nat.reduceMul, Nat.reduceSub]
      refine callGo_pure awake25_pure (by rfl) ?_
      simp only [go_sem, Nat.reduceAdd, Nat.reduceEqDiff, Nat.reduceLT, reduceIte, reduceCtorEq, Nat.reduceBEq, Int.reduceLT, Int.reduceToNat, Int.reducePow, Nat.reduceLeDiff, Int.reduceLE, Nat.reduceMul, Nat.reduceSub]
      simp only [Done, resAV, resL, resOne, look_nil, look_cons, Nat.reduceEqDiff, if_true, if_false, reduceIte, ite_true, ite_false, Nat.zero_ne_one, Nat.one_ne_zero, reduceCtorEq, true_or, or_true, true_and, Option.some.injEq, AV.lit.injEq, Value.int.injEq, Value.bool.injEq]
    have d2 : decide ((z.length : Int) > 30) = false := by simp; omega
    have c1 : binStr .add (txt a) (txt z) = some (.string (txt (a ++ z))) := by rw [cat_all _ _ (by rw [txt_size, txt_size]; omega), txt_app]
    have c2 : binStr .add (txt a) ⟨#[37]⟩ = some (.string (txt (a ++ [37]))) := by
      have : (⟨#[37]⟩ : ByteArray) = txt [37] := rfl
      rw [this, cat_all _ _ (by rw [txt_size, txt_size]; simp; omega), txt_app]
    have c3 : binStr .add (txt (a ++ [37])) (txt z) = some (.string (txt (a ++ [37] ++ z))) := by rw [cat_all _ _ (by rw [txt_size, txt_size, List.length_append]; simp; omega), txt_app]
    simp only [Bool.not_true, d1, d2, c1, txt_size, go_sem, Nat.reduceAdd, Nat.reduceEqDiff, Nat.reduceLT, reduceIte, reduceCtorEq, Nat.reduceBEq, Int.reduceLT, Int.reduceToNat, Int.reducePow, Nat.reduceLeDiff, Int.reduceLE, Nat.reduceMul, Nat.reduceSub]
    refine callGo_pure (containsFunc_pure (a ++ z) (fun n hn => (List.mem_append.1 hn).elim (ha255 n) (hz255 n)) (by rw [List.length_append]; omega)) (by rfl) ?_
    cases hbe : beyond (a ++ z) with
    | true =>
      simp only [go_sem, Nat.reduceAdd, Nat.reduceEqDiff, Nat.reduceLT, reduceIte, reduceCtorEq, Nat.reduceBEq, Int.reduceLT, Int.reduceToNat, Int.reducePow, Nat.reduceLeDiff, Int.reduceLE, Nat.reduceMul, Nat.reduceSub]
      refine callGo_pure awake25_pure (by rfl) ?_
      simp only [go_sem, Nat.reduceAdd, Nat.reduceEqDiff, Nat.reduceLT, reduceIte, reduceCtorEq, Nat.reduceBEq, Int.reduceLT, Int.reduceToNat, Int.reducePow, Nat.reduceLeDiff, Int.reduceLE, Nat.reduceMul, Nat.reduceSub]
      simp only [Done, resAV, resL, resOne, look_nil, look_cons, Nat.reduceEqDiff, if_true, if_false, reduceIte, ite_true, ite_false, Nat.zero_ne_one, Nat.one_ne_zero, reduceCtorEq, true_or, or_true, true_and, Option.some.injEq, AV.lit.injEq, Value.int.injEq, Value.bool.injEq]
    | false =>
      have hall : ∀ c ∈ a ++ z, c ≤ 127 := fun c hc => by
        unfold beyond at hbe
        rw [List.any_eq_false] at hbe
        have := hbe c hc
        simp at this; omega
      have ha : ∀ c ∈ a, c ≤ 127 := fun c hc => hall c (List.mem_append_left _ hc)
      have hz : ∀ c ∈ z, c ≤ 127 := fun c hc => hall c (List.mem_append_right _ hc)
      simp only [go_sem, Nat.reduceAdd, Nat.reduceEqDiff, Nat.reduceLT, reduceIte, reduceCtorEq, Nat.reduceBEq, Int.reduceLT, Int.reduceToNat, Int.reducePow, Nat.reduceLeDiff, Int.reduceLE, Nat.reduceMul, Nat.reduceSub]
      refine callGo_pure (lastIndex_pure a 37 ha255 (by omega)) (by rfl) ?_
      have hlx : -1 ≤ lastIx 37 a ∧ lastIx 37 a < 31 := by
        have key : ∀ l : List Nat, -1 ≤ lastIx 37 l ∧ lastIx 37 l < (l.length : Int) ∨ lastIx 37 l = -1 := by
          intro l
          induction l with
          | nil => right; rfl
          | cons x l ih =>
            simp only [lastIx, List.length_cons]
            (repeat' split) <;> omega
        rcases key a with h | h <;> omega
      have w1 : IntKind.i64.wrap ((a.length : Int) - lastIx 37 a) = (a.length : Int) - lastIx 37 a := wrap_i64 _ (by omega) (by omega)
      simp only [w1, txt_size, go_sem, Nat.reduceAdd, Nat.reduceEqDiff, Nat.reduceLT, reduceIte, reduceCtorEq, Nat.reduceBEq, Int.reduceLT, Int.reduceToNat, Int.reducePow, Nat.reduceLeDiff, Int.reduceLE, Nat.reduceMul, Nat.reduceSub]
      by_cases h5 : 0 ≤ lastIx 37 a
      · have d5 : decide (lastIx 37 a ≥ 0) = true := by simp; omega
        by_cases h6 : (a.length : Int) - lastIx 37 a < 3
        · have d6 : decide ((a.length : Int) - lastIx 37 a < 3) = true := by simp; omega
          simp only [d5, d6, w1, txt_size, go_sem, Nat.reduceAdd, Nat.reduceEqDiff, Nat.reduceLT, reduceIte, reduceCtorEq, Nat.reduceBEq, Int.reduceLT, Int.reduceToNat, Int.reducePow, Nat.reduceLeDiff, Int.reduceLE, Nat.reduceMul, Nat.reduceSub]
          refine callGo_pure awake25_pure (by rfl) ?_
          simp only [go_sem, Nat.reduceAdd, Nat.reduceEqDiff, Nat.reduceLT, reduceIte, reduceCtorEq, Nat.reduceBEq, Int.reduceLT, Int.reduceToNat, Int.reducePow, Nat.reduceLeDiff, Int.reduceLE, Nat.reduceMul, Nat.reduceSub]
          simp only [Done, resAV, resL, resOne, look_nil, look_cons, Nat.reduceEqDiff, if_true, if_false, reduceIte, ite_true, ite_false, Nat.zero_ne_one, Nat.one_ne_zero, reduceCtorEq, true_or, or_true, true_and, Option.some.injEq, AV.lit.injEq, Value.int.injEq, Value.bool.injEq]
        · have d6 : decide ((a.length : Int) - lastIx 37 a < 3) = false := by simp; omega
          simp only [d5, d6, w1, txt_size, go_sem, Nat.reduceAdd, Nat.reduceEqDiff, Nat.reduceLT, reduceIte, reduceCtorEq, Nat.reduceBEq, Int.reduceLT, Int.reduceToNat, Int.reducePow, Nat.reduceLeDiff, Int.reduceLE, Nat.reduceMul, Nat.reduceSub]
          exact one_mid (small := small) hr (whole_of (by omega)) ha hz (by omega) (by omega) c2 c3 (by simp only [Ab.look, Nat.reduceEqDiff, if_true, if_false]) (by simp only [Ab.look, Nat.reduceEqDiff, if_true, if_false]) (by simp only [Ab.look, Nat.reduceEqDiff, if_true, if_false]) (by simp only [Ab.look, Nat.reduceEqDiff, if_true, if_false])
      · have d5 : decide (lastIx 37 a ≥ 0) = false := by simp; omega
        simp only [d5, go_sem, Nat.reduceAdd, Nat.reduceEqDiff, Nat.reduceLT, reduceIte, reduceCtorEq, Nat.reduceBEq, Int.reduceLT, Int.reduceToNat, Int.reducePow, Nat.reduceLeDiff, Int.reduceLE, Nat.reduceMul, Nat.reduceSub]
        exact one_mid (small := small) hr (whole_of (by omega)) ha hz (by omega) (by omega) c2 c3 (by simp only [Ab.look, Nat.reduceEqDiff, if_true, if_false]) (by simp only [Ab.look, Nat.reduceEqDiff, if_true, if_false]) (by simp only [Ab.look, Nat.reduceEqDiff, if_true, if_false]) (by simp only [Ab.look, Nat.reduceEqDiff, if_true, if_false])
end Go.Proofs.YteekelelcbfekaaDoor
