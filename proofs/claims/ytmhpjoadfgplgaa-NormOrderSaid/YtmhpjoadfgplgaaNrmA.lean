/-
A row taken apart, in order: norm.apart. Conditions: none.
-/
import Derived.Test.YtmhpjoadfgplgaaNrmJ
set_option linter.unusedSimpArgs false
set_option linter.unusedVariables false
set_option linter.unusedSectionVars false
namespace Go.Proofs.Ytmhpjoadfgplgaa
open Go Go.Ab
def a86 : ACode :=
  (.seq (.reg [⟨(.some 4), (.mv (.k (.int .i64 0))), .none⟩]) (.seq (.seq (.reg [⟨(.some 6), (.mv (.t 0)), .none⟩, ⟨(.some 7), (.len (.t 6)), .none⟩, ⟨(.some 8), (.mv (.k (.int .i64 0))), .none⟩])
  (.block 0 (.loop (.seq (.reg [⟨(.some 9), (.bin .lss (.t 8) (.t 7)), .none⟩]) (.seq (.cond (.t 9) .skip (.exit 0)) (.seq (.block 1 (.seq (.reg [⟨(.some 10), (.mv (.t 8)), .none⟩, ⟨(.some 5), (.mv (.t
  10)), .none⟩]) (.seq (.reg [⟨(.some 11), (.mv (.t 1)), .none⟩, ⟨(.some 12), (.mv (.t 0)), .none⟩, ⟨(.some 13), (.mv (.t 5)), .none⟩, ⟨(.some 14), (.ia 3 (.t 12) (.t 13)), .none⟩, ⟨(.some 15), (.ld
  .none (.t 14)), .none⟩, ⟨(.some 16), (.call (.t 11) [(.t 15)]), .none⟩]) (.cond (.t 16) (.seq (.reg [⟨(.some 17), (.mv (.t 5)), .none⟩, ⟨(.some 4), (.mv (.t 17)), .none⟩]) .ret) .skip)))) (.reg
  [⟨(.some 18), (.bin .add (.t 8) (.k (.int .i64 1))), .none⟩, ⟨(.some 8), (.mv (.t 18)), .none⟩]))))))) (.seq (.reg [⟨(.some 4), (.mv (.k (.int .i64 (-1)))), .none⟩]) .ret)))
theorem c86 : Try.f86.body.bind (cCode Try.prog 19) = some a86 := by kernel_rfl
theorem r86 : Try.f86.results.toList = [(.tmp 4)] := by kernel_rfl
theorem n86 : Try.f86.ntmps = 19 := by kernel_rfl
theorem e86 : Enters Try.prog 86 := enters_of Try.func86 (by kernel_rfl) (by kernel_rfl)
def a85 : ACode :=
  (.seq (.reg [⟨(.some 2), (.mv (.k (.bool false))), .none⟩]) (.seq (.reg [⟨(.some 3), (.mv (.t 0)), .none⟩, ⟨(.some 4), (.bin .eql (.t 3) (.k (.int .i64 0))), .none⟩, ⟨(.some 2), (.mv (.t 4)), .none⟩])
  .ret))
theorem c85 : Try.f85.body.bind (cCode Try.prog 5) = some a85 := by kernel_rfl
theorem r85 : Try.f85.results.toList = [(.tmp 2)] := by kernel_rfl
theorem n85 : Try.f85.ntmps = 5 := by kernel_rfl
theorem e85 : Enters Try.prog 85 := enters_of Try.func85 (by kernel_rfl) (by kernel_rfl)
def a84 : ACode :=
  (.seq (.reg [⟨(.some 2), (.mv (.k (.int .i64 0))), .none⟩]) (.seq (.reg [⟨(.some 3), (.mv (.t 0)), .none⟩, ⟨(.some 4), (.call (.f 27) [(.t 3)]), .none⟩, ⟨(.some 5), (.fld 3 .none (.t 4)), .none⟩,
  ⟨(.some 6), (.cvI .i64 (.t 5)), .none⟩, ⟨(.some 2), (.mv (.t 6)), .none⟩]) .ret))
theorem c84 : Try.f84.body.bind (cCode Try.prog 7) = some a84 := by kernel_rfl
theorem r84 : Try.f84.results.toList = [(.tmp 2)] := by kernel_rfl
theorem n84 : Try.f84.ntmps = 7 := by kernel_rfl
theorem e84 : Enters Try.prog 84 := enters_of Try.func84 (by kernel_rfl) (by kernel_rfl)
def a58 : ACode :=
  (.seq (.reg [⟨(.some 2), (.mv (.k (.slice .none 0 0))), .none⟩, ⟨(.some 3), (.mv (.k (.slice .none 0 0))), .none⟩]) (.seq (.reg [⟨(.some 4), (.mv (.k (.slice .none 0 0))), .none⟩]) (.seq (.reg
  [⟨(.some 5), (.mv (.k (.slice .none 0 0))), .none⟩]) (.seq (.seq (.reg [⟨(.some 13), (.mv (.t 0)), .none⟩, ⟨(.some 14), (.len (.t 13)), .none⟩, ⟨(.some 15), (.mv (.k (.int .i64 0))), .none⟩]) (.block
  0 (.loop (.seq (.reg [⟨(.some 16), (.bin .lss (.t 15) (.t 14)), .none⟩]) (.seq (.cond (.t 16) .skip (.exit 0)) (.seq (.block 1 (.seq (.reg [⟨(.some 17), (.ia 21 (.t 13) (.t 15)), .none⟩, ⟨(.some 18),
  (.ld .none (.t 17)), .none⟩, ⟨(.some 7), (.mv (.t 18)), .none⟩]) (.seq (.reg [⟨(.some 19), (.mv (.t 7)), .none⟩, ⟨(.some 20), (.call (.f 26) [(.t 19)]), .none⟩, ⟨(.some 21), (.len (.t 20)), .none⟩,
  ⟨(.some 22), (.mv (.k (.int .i64 0))), .none⟩]) (.block 2 (.loop (.seq (.reg [⟨(.some 23), (.bin .lss (.t 22) (.t 21)), .none⟩]) (.seq (.cond (.t 23) .skip (.exit 2)) (.seq (.block 3 (.seq (.reg
  [⟨(.some 24), (.ia 21 (.t 20) (.t 22)), .none⟩, ⟨(.some 25), (.ld .none (.t 24)), .none⟩, ⟨(.some 9), (.mv (.t 25)), .none⟩]) (.reg [⟨(.some 26), (.mv (.t 4)), .none⟩, ⟨(.some 27), (.mv (.t 9)),
  .none⟩, ⟨(.some 28), (.bs 21 1 [(.t 27)]), .none⟩, ⟨(.some 29), (.app 21 4 (.t 26) (.t 28)), .none⟩, ⟨(.some 30), (.mv (.t 5)), .none⟩, ⟨(.some 31), (.mv (.t 9)), .none⟩, ⟨(.some 32), (.call (.f 84)
  [(.t 31)]), .none⟩, ⟨(.some 33), (.bs 3 1 [(.t 32)]), .none⟩, ⟨(.some 34), (.app 3 8 (.t 30) (.t 33)), .none⟩, ⟨(.some 4), (.mv (.t 29)), .none⟩, ⟨(.some 5), (.mv (.t 34)), .none⟩]))) (.reg [⟨(.some
  35), (.bin .add (.t 22) (.k (.int .i64 1))), .none⟩, ⟨(.some 22), (.mv (.t 35)), .none⟩]))))))))) (.reg [⟨(.some 36), (.bin .add (.t 15) (.k (.int .i64 1))), .none⟩, ⟨(.some 15), (.mv (.t 36)),
  .none⟩]))))))) (.seq (.reg [⟨(.some 10), (.mv (.f 85)), .none⟩]) (.seq (.seq (.reg [⟨(.some 11), (.mv (.k (.int .i64 0))), .none⟩]) (.block 4 (.loop (.seq (.seq (.reg [⟨(.some 37), (.mv (.t 11)),
  .none⟩, ⟨(.some 38), (.mv (.t 4)), .none⟩, ⟨(.some 39), (.len (.t 38)), .none⟩, ⟨(.some 40), (.bin .lss (.t 37) (.t 39)), .none⟩]) (.cond (.t 40) .skip (.exit 4))) (.block 5 (.seq (.reg [⟨(.some 41),
  (.mv (.t 5)), .none⟩, ⟨(.some 42), (.mv (.t 11)), .none⟩, ⟨(.some 43), (.slc 3 (.t 41) (.some (.t 42)) .none), .none⟩, ⟨(.some 44), (.mv (.t 10)), .none⟩, ⟨(.some 45), (.call (.f 86) [(.t 43), (.t
  44)]), .none⟩, ⟨(.some 12), (.mv (.t 45)), .none⟩]) (.seq (.seq (.reg [⟨(.some 46), (.mv (.t 12)), .none⟩, ⟨(.some 47), (.bin .lss (.t 46) (.k (.int .i64 0))), .none⟩]) (.cond (.t 47) (.reg [⟨(.some
  48), (.mv (.t 4)), .none⟩, ⟨(.some 49), (.len (.t 48)), .none⟩, ⟨(.some 50), (.mv (.t 11)), .none⟩, ⟨(.some 51), (.bin .sub (.t 49) (.t 50)), .none⟩, ⟨(.some 12), (.mv (.t 51)), .none⟩]) .skip)) (.seq
  (.seq (.dreg [⟨(.some 52), (.mv (.t 4)), .none⟩, ⟨(.some 53), (.mv (.t 11)), .none⟩, ⟨(.some 54), (.mv (.t 11)), .none⟩, ⟨(.some 55), (.mv (.t 12)), .none⟩, ⟨(.some 56), (.bin .add (.t 54) (.t 55)),
  .none⟩, ⟨(.some 57), (.slc 21 (.t 52) (.some (.t 53)) (.some (.t 56))), .none⟩, ⟨(.some 58), (.mv (.t 5)), .none⟩, ⟨(.some 59), (.mv (.t 11)), .none⟩, ⟨(.some 60), (.mv (.t 11)), .none⟩, ⟨(.some 61),
  (.mv (.t 12)), .none⟩, ⟨(.some 62), (.bin .add (.t 60) (.t 61)), .none⟩, ⟨(.some 63), (.slc 3 (.t 58) (.some (.t 59)) (.some (.t 62))), .none⟩, ⟨(.some 64), (.bd [(.slice .none 0 0), (.slice .none 0
  0)] [(0, (1, (.t 57))), (1, (1, (.t 63)))]), .none⟩, ⟨(.some 65), (.xv (.mki 122) [(.t 64)]), .none⟩]) (.reg [⟨(.some 66), (.call (.f 87) [(.t 65)]), .none⟩])) (.reg [⟨(.some 67), (.mv (.t 11)),
  .none⟩, ⟨(.some 68), (.mv (.t 12)), .none⟩, ⟨(.some 69), (.bin .add (.t 68) (.k (.int .i64 1))), .none⟩, ⟨(.some 70), (.bin .add (.t 67) (.t 69)), .none⟩, ⟨(.some 11), (.mv (.t 70)), .none⟩])))))))))
  (.seq (.reg [⟨(.some 71), (.mv (.t 4)), .none⟩, ⟨(.some 72), (.mv (.t 5)), .none⟩, ⟨(.some 2), (.mv (.t 71)), .none⟩, ⟨(.some 3), (.mv (.t 72)), .none⟩]) .ret)))))))
theorem c58 : Try.f58.body.bind (cCode Try.prog 73) = some a58 := by kernel_rfl
theorem r58 : Try.f58.results.toList = [(.tmp 2), (.tmp 3)] := by kernel_rfl
theorem n58 : Try.f58.ntmps = 73 := by kernel_rfl
theorem e58 : Enters Try.prog 58 := enters_of Try.func58 (by kernel_rfl) (by kernel_rfl)

set_option maxRecDepth 10000 in
theorem class_pure (r : Int) : Pure Try.prog 84 [.lit (.int .i32 r)] [] (.lit (.int .i64 (cls r : Int))) := by
  refine pure0 Try.func84 c84 n84 e84 r84 (by simp) rfl ?_
  have hc := ccc_eq r
  have hw : IntKind.i64.wrap (rowAt r).ccc = (cls r : Int) := by rw [hc.1, wrap_i64 _ (by omega) (by omega)]
  simp only [a84, astart, argSlots, go_sem, Nat.reduceAdd, Nat.reduceEqDiff, Nat.reduceLT, reduceIte, reduceCtorEq, Nat.reduceBEq, Int.reduceLT, Int.reduceToNat, Int.reducePow, Nat.reduceLeDiff, Int.reduceLE, Nat.reduceMul, Nat.reduceSub]
  refine callGo_pure (of_pure r) (by rfl) ?_
  simp only [Row.prop, hw, go_sem, Nat.reduceAdd, Nat.reduceEqDiff, Nat.reduceLT, reduceIte, reduceCtorEq, Nat.reduceBEq, Int.reduceLT, Int.reduceToNat, Int.reducePow, Nat.reduceLeDiff, Int.reduceLE, Nat.reduceMul, Nat.reduceSub]
  simp only [Done, resAV, resL, resOne, look_nil, look_cons, Nat.reduceEqDiff, if_true, if_false, reduceIte, ite_true, ite_false, Nat.zero_ne_one, Nat.one_ne_zero, reduceCtorEq, true_or, or_true, true_and, Option.some.injEq, AV.lit.injEq, Value.int.injEq, Value.bool.injEq]

set_option maxRecDepth 10000 in
theorem zero_pure (n : Int) : Pure Try.prog 85 [.lit (.int .i64 n)] [] (.lit (.bool (n == 0))) := by
  refine pure0 Try.func85 c85 n85 e85 r85 (by simp) rfl ?_
  simp only [a85, astart, argSlots, go_sem, Nat.reduceAdd, Nat.reduceEqDiff, Nat.reduceLT, reduceIte, reduceCtorEq, Nat.reduceBEq, Int.reduceLT, Int.reduceToNat, Int.reducePow, Nat.reduceLeDiff, Int.reduceLE, Nat.reduceMul, Nat.reduceSub]
  simp only [Done, resAV, resL, resOne, look_nil, look_cons, Nat.reduceEqDiff, if_true, if_false, reduceIte, ite_true, ite_false, Nat.zero_ne_one, Nat.one_ne_zero, reduceCtorEq, true_or, or_true, true_and, Option.some.injEq, AV.lit.injEq, Value.int.injEq, Value.bool.injEq]

/-- The first starter. -/
def firstZ (l : List Int) : Int := rowI (l.findIdx? fun x => cls x == 0)

set_option maxRecDepth 10000 in
theorem indexZ_ok (P R : List Int) {nx : Nat} (hnx : 2 ≤ nx) (hl : P.length + R.length ≤ 1000000) {K : AV → List (Nat × List AV) → List (Nat × TypeId) → Nat → Prop}
    (hK : ∀ nx', 2 ≤ nx' → K (.lit (.int .i64 (firstZ R))) (two2 (P ++ R)) [] nx') :
    CallOK Try.prog 86 [.rf (.row 3 1 P.length R.length) 1, .fn (.func 85) [] []] (two2 (P ++ R)) [] nx K := by
  refine callOK_walk Try.func86 c86 n86 e86 r86 (by simp) ?_
  simp only [a86, astart, argSlots, two2, go_sem, Nat.reduceAdd, Nat.reduceEqDiff, Nat.reduceLT, reduceIte, reduceCtorEq, Nat.reduceBEq, Int.reduceLT, Int.reduceToNat, Int.reducePow, Nat.reduceLeDiff, Int.reduceLE, Nat.reduceMul, Nat.reduceSub]
  refine loop_by (α := Nat × Nat) (fun x => ⟨[(0, some (.rf (.row 3 1 P.length R.length) 1)), (1, some (.fn (.func 85) [] [])), (7, some (.lit (.int .i64 (R.length : Int)))), (8, some (.lit (.int .i64 ((x.1 : Nat) : Int))))], two2 (P ++ R), [], x.2⟩)
    (fun x => x.1 ≤ R.length ∧ 2 ≤ x.2 ∧ ∀ (j : Nat) (h : j < R.length), j < x.1 → cls R[j] ≠ 0) (fun x => R.length - x.1) (fun x y h => by
      have := congrArg (cnt 8) h
      simp [cnt, Ab.look] at this
      rw [this]) (0, nx) (weak_forget ?_ (List.Sublist.refl _) (List.Sublist.refl _)) ⟨Nat.zero_le _, hnx, fun j _ hj => absurd hj (Nat.not_lt_zero _)⟩ ?_
  · simp only [go_sem, Nat.reduceAdd, Nat.reduceEqDiff, Nat.reduceLT, reduceIte, reduceCtorEq, Nat.reduceBEq, Int.reduceLT, Int.reduceToNat, Int.reducePow, Nat.reduceLeDiff, Int.reduceLE, Nat.reduceMul, Nat.reduceSub, slotsSub, Int.natCast_zero]
  · rintro ⟨i, nx1⟩ ⟨hi, hx1, hp⟩
    simp only at hi hx1 hp
    rcases Nat.lt_or_eq_of_le hi with hlt | heq
    · have hg : (cK (P ++ R))[P.length + i]? = some (.lit (.int .i64 (cls R[i] : Int))) := by
        rw [cK, List.getElem?_map, List.getElem?_append_right (by omega), Nat.add_sub_cancel_left, List.getElem?_eq_getElem hlt]; rfl
      simp only [dec_lt hlt, hlt, Nat.mul_one, two2, unOb_cK, drop_get0, hg, go_sem, Nat.reduceAdd, Nat.reduceEqDiff, Nat.reduceLT, reduceIte, reduceCtorEq, Nat.reduceBEq, Int.reduceLT, Int.reduceToNat, Int.reducePow, Nat.reduceLeDiff, Int.reduceLE, Nat.reduceMul, Nat.reduceSub]
      refine callGo_pure (zero_pure _) (by rfl) ?_
      simp only [go_sem, Nat.reduceAdd, Nat.reduceEqDiff, Nat.reduceLT, reduceIte, reduceCtorEq, Nat.reduceBEq, Int.reduceLT, Int.reduceToNat, Int.reducePow, Nat.reduceLeDiff, Int.reduceLE, Nat.reduceMul, Nat.reduceSub]
      by_cases he : cls R[i] = 0
      · have e1 : (((cls R[i] : Nat) : Int) == 0) = true := by simp [he]
        have : firstZ R = (i : Int) := by
          unfold firstZ
          rw [(List.findIdx?_eq_some_iff_getElem (i := i)).2 ⟨hlt, by simp [he], fun j hj => by simpa using hp j (by omega) hj⟩]; rfl
        rw [this] at hK
        simp only [e1, go_sem, Nat.reduceAdd, Nat.reduceEqDiff, Nat.reduceLT, reduceIte, reduceCtorEq, Nat.reduceBEq, Int.reduceLT, Int.reduceToNat, Int.reducePow, Nat.reduceLeDiff, Int.reduceLE, Nat.reduceMul, Nat.reduceSub]
        exact ⟨.inr trivial, _, by simp only [resAV, resL, resOne, go_sem, Nat.reduceAdd, Nat.reduceEqDiff, Nat.reduceLT, reduceIte, reduceCtorEq, Nat.reduceBEq, Int.reduceLT, Int.reduceToNat, Int.reducePow, Nat.reduceLeDiff, Int.reduceLE, Nat.reduceMul, Nat.reduceSub], hK _ (by omega)⟩
      · have e1 : (((cls R[i] : Nat) : Int) == 0) = false := by simp [he]
        have w : IntKind.i64.wrap ((i : Int) + 1) = ((i + 1 : Nat) : Int) := by rw [wrap_i64 _ (by omega) (by omega)]; omega
        simp only [e1, w, go_sem, Nat.reduceAdd, Nat.reduceEqDiff, Nat.reduceLT, reduceIte, reduceCtorEq, Nat.reduceBEq, Int.reduceLT, Int.reduceToNat, Int.reducePow, Nat.reduceLeDiff, Int.reduceLE, Nat.reduceMul, Nat.reduceSub]
        refine ⟨(i + 1, nx1), weak_forget ?_ (List.Sublist.refl _) (List.Sublist.refl _), ⟨hlt, by simp only; omega, fun j h hj => ?_⟩, by simp only; omega⟩
        · simp only [go_sem, Nat.reduceAdd, Nat.reduceEqDiff, Nat.reduceLT, reduceIte, reduceCtorEq, Nat.reduceBEq, Int.reduceLT, Int.reduceToNat, Int.reducePow, Nat.reduceLeDiff, Int.reduceLE, Nat.reduceMul, Nat.reduceSub, slotsSub]
        · rcases Nat.lt_succ_iff_lt_or_eq.1 hj with hj | hj
          · exact hp j h hj
          · subst hj; exact he
    · subst heq
      have : firstZ R = -1 := by
        unfold firstZ
        rw [List.findIdx?_eq_none_iff.2]
        · rfl
        · intro x hx
          obtain ⟨j, hj, rfl⟩ := List.mem_iff_getElem.1 hx
          simpa using hp j hj hj
      rw [this] at hK
      simp only [dec_irr, go_sem, Nat.reduceAdd, Nat.reduceEqDiff, Nat.reduceLT, reduceIte, reduceCtorEq, Nat.reduceBEq, Int.reduceLT, Int.reduceToNat, Int.reducePow, Nat.reduceLeDiff, Int.reduceLE, Nat.reduceMul, Nat.reduceSub]
      exact ⟨.inr trivial, _, by simp only [resAV, resL, resOne, go_sem, Nat.reduceAdd, Nat.reduceEqDiff, Nat.reduceLT, reduceIte, reduceCtorEq, Nat.reduceBEq, Int.reduceLT, Int.reduceToNat, Int.reducePow, Nat.reduceLeDiff, Int.reduceLE, Nat.reduceMul, Nat.reduceSub], hK _ (by omega)⟩

/-- The rows as they grow: nothing yet, or rows that may be written. -/
def outV (xs : List Int) (t : Nat) : AV := match xs with
  | [] => .vx .wrap [.lit (.slice none 0 0)]
  | _ => .rf (.row 21 1 0 xs.length) t
def byV (xs : List Int) (t : Nat) : AV := match xs with
  | [] => .vx .wrap [.lit (.slice none 0 0)]
  | _ => .rf (.row 3 1 0 xs.length) t
def bxs (xs : List Int) (t1 t2 : Nat) : List (Nat × List AV) := match xs with
  | [] => []
  | _ => [(t2, cK xs), (t1, cX xs)]
theorem outV_ne {xs : List Int} (h : xs ≠ []) (t : Nat) : outV xs t = .rf (.row 21 1 0 xs.length) t := by cases xs <;> first | rfl | exact absurd rfl h
theorem byV_ne {xs : List Int} (h : xs ≠ []) (t : Nat) : byV xs t = .rf (.row 3 1 0 xs.length) t := by cases xs <;> first | rfl | exact absurd rfl h
theorem bxs_ne {xs : List Int} (h : xs ≠ []) (t1 t2 : Nat) : bxs xs t1 t2 = [(t2, cK xs), (t1, cX xs)] := by cases xs <;> first | rfl | exact absurd rfl h
theorem cX_snoc (xs : List Int) (x : Int) : cX xs ++ [.lit (.int .i32 x)] = cX (xs ++ [x]) := by simp [cX]
theorem cK_snoc (xs : List Int) (x : Int) : cK xs ++ [.lit (.int .i64 (cls x : Int))] = cK (xs ++ [x]) := by simp [cK]
theorem runes_at {l : List Int} {i : Nat} (h : i < l.length) : (runes l)[i]? = some [.int .i32 l[i]] := runes_get l i h

theorem cX_under (n : Nat) : ∀ xs : List Int, AV.underL n (cX xs) = true
  | [] => rfl
  | x :: xs => by
    have := cX_under n xs
    simp only [cX, List.map_cons, AV.underL, AV.under, Bool.true_and] at this ⊢
    exact this
theorem cK_under (n : Nat) : ∀ xs : List Int, AV.underL n (cK xs) = true
  | [] => rfl
  | x :: xs => by
    have := cK_under n xs
    simp only [cK, List.map_cons, AV.underL, AV.under, Bool.true_and] at this ⊢
    exact this
theorem splitP_ne (r : Int) : splitP T r ≠ [] := by
  unfold splitP
  split
  · unfold sylP; split <;> simp
  · split
    · simp
    · split
      · simp
      · split <;> simp
theorem flat_len (m : List Int) : (flatP T m).length ≤ 3 * m.length := by
  induction m with
  | nil => simp [flatP]
  | cons x m ih =>
    have := splitP_len x
    rw [flat_cons, List.length_append, List.length_cons]; omega
theorem app_wrap (bx : List (Nat × List AV)) (tp : List (Nat × TypeId)) (e : TypeId) (v : Value) (t : Option Nat) : rowApp bx tp e (.vx .wrap [.lit (.slice none 0 0)]) (.sl e [[v]] t) = some ⟨1, 0, 1, [.lit v], bx, tp, 0⟩ := by
  simp [rowApp, srcN]
theorem app_row {bx : List (Nat × List AV)} (tp : List (Nat × TypeId)) (e : TypeId) {n id : Nat} {cells : List AV} (v : Value) (t : Option Nat) (hb : boxAt bx id = some cells) (hn : cells.length = n) :
    rowApp bx tp e (.rf (.row e 1 0 n) id) (.sl e [[v]] t) = some ⟨1, n, 1, cells ++ [.lit v], delBox bx id, tp, 0⟩ := by
  subst hn
  simp [rowApp, srcN, hb]

set_option maxRecDepth 10000 in
theorem apart_ok (l : List Int) (hl : l.length ≤ 1000) (h32 : I32 l) {K : AV → List (Nat × List AV) → List (Nat × TypeId) → Nat → Prop}
    (hne : l ≠ []) (hK : ∀ nx', 2 ≤ nx' → K (.tu [.rf (.row 21 1 0 (nfdP T cls l).length) 0, .rf (.row 3 1 0 (nfdP T cls l).length) 1]) (two2 (nfdP T cls l)) [] nx') :
    CallOK Try.prog 58 [rS l none] [] [] 0 K := by
  refine callOK_walk Try.func58 c58 n58 e58 r58 (by simp) ?_
  simp only [a58, astart, argSlots, runes_length, go_sem, Nat.reduceAdd, Nat.reduceEqDiff, Nat.reduceLT, reduceIte, reduceCtorEq, Nat.reduceBEq, Int.reduceLT, Int.reduceToNat, Int.reducePow, Nat.reduceLeDiff, Int.reduceLE, Nat.reduceMul, Nat.reduceSub]
  refine loop_by (α := Nat × Nat × Nat × Nat) (fun x => ⟨[(13, some (rS l none)), (14, some (.lit (.int .i64 (l.length : Int)))), (15, some (.lit (.int .i64 ((x.1 : Nat) : Int)))), (4, some (outV (flatP T (l.take x.1)) x.2.1)), (5, some (byV (flatP T (l.take x.1)) x.2.2.1))], bxs (flatP T (l.take x.1)) x.2.1 x.2.2.1, [], x.2.2.2⟩)
    (fun x => x.1 ≤ l.length ∧ (flatP T (l.take x.1) ≠ [] → x.2.1 < x.2.2.2 ∧ x.2.2.1 < x.2.2.2 ∧ x.2.1 ≠ x.2.2.1)) (fun x => l.length - x.1) (fun x y h => by
      have := congrArg (cnt 15) h
      simp [cnt, Ab.look] at this
      rw [this]) (0, 0, 1, 0) ?_ ⟨Nat.zero_le _, fun h => absurd rfl h⟩ ?_
  · refine (weak_wrap 4 (by simp only [go_sem, Nat.reduceAdd, Nat.reduceEqDiff, Nat.reduceLT, reduceIte, reduceCtorEq, Nat.reduceBEq, Int.reduceLT, Int.reduceToNat, Int.reducePow, Nat.reduceLeDiff, Int.reduceLE, Nat.reduceMul, Nat.reduceSub]) (.inl rfl)).trans ((weak_wrap 5 (by simp only [go_sem, Nat.reduceAdd, Nat.reduceEqDiff, Nat.reduceLT, reduceIte, reduceCtorEq, Nat.reduceBEq, Int.reduceLT, Int.reduceToNat, Int.reducePow, Nat.reduceLeDiff, Int.reduceLE, Nat.reduceMul, Nat.reduceSub]) (.inl rfl)).trans (weak_forget ?_ (List.Sublist.refl _) (List.Sublist.refl _)))
    simp only [List.take_zero, flatP, List.flatMap_nil, outV, byV, Int.natCast_zero, go_sem, Nat.reduceAdd, Nat.reduceEqDiff, Nat.reduceLT, reduceIte, reduceCtorEq, Nat.reduceBEq, Int.reduceLT, Int.reduceToNat, Int.reducePow, Nat.reduceLeDiff, Int.reduceLE, Nat.reduceMul, Nat.reduceSub, slotsSub]
  · rintro ⟨i, t1, t2, nx⟩ ⟨hi, hid⟩
    simp only at hi hid
    simp only [go_sem, Nat.reduceAdd, Nat.reduceEqDiff, Nat.reduceLT, reduceIte, reduceCtorEq, Nat.reduceBEq, Int.reduceLT, Int.reduceToNat, Int.reducePow, Nat.reduceLeDiff, Int.reduceLE, Nat.reduceMul, Nat.reduceSub]
    rcases Nat.lt_or_eq_of_le hi with hlt | heq
    · have hr := h32 l[i] (List.getElem_mem hlt)
      have hs3 := splitP_len l[i]
      have hw : IntKind.i64.wrap ((i : Int) + 1) = ((i + 1 : Nat) : Int) := by rw [wrap_i64 _ (by omega) (by omega)]; omega
      have hnext : flatP T (l.take i) ++ splitP T l[i] = flatP T (l.take (i + 1)) := by
        rw [List.take_succ_eq_append_getElem hlt, flat_append, flat_cons]; simp [flatP]
      have hfl : (flatP T (l.take i)).length ≤ 3 * i := by
        have := flat_len (l.take i)
        rw [List.length_take] at this
        omega
      simp only [dec_lt hlt, hlt, runes_at hlt, runes_length, go_sem, Nat.reduceAdd, Nat.reduceEqDiff, Nat.reduceLT, reduceIte, reduceCtorEq, Nat.reduceBEq, Int.reduceLT, Int.reduceToNat, Int.reducePow, Nat.reduceLeDiff, Int.reduceLE, Nat.reduceMul, Nat.reduceSub]
      refine callGo_pure (Split_pure l[i] hr) (by rfl) ?_
      simp only [runes_length, go_sem, Nat.reduceAdd, Nat.reduceEqDiff, Nat.reduceLT, reduceIte, reduceCtorEq, Nat.reduceBEq, Int.reduceLT, Int.reduceToNat, Int.reducePow, Nat.reduceLeDiff, Int.reduceLE, Nat.reduceMul, Nat.reduceSub]
      refine loop_by (α := Nat × Nat × Nat × Nat) (fun x => ⟨[(13, some (rS l none)), (14, some (.lit (.int .i64 (l.length : Int)))), (15, some (.lit (.int .i64 (i : Int)))), (20, some (rS (splitP T l[i]) none)), (21, some (.lit (.int .i64 ((splitP T l[i]).length : Int)))), (22, some (.lit (.int .i64 ((x.1 : Nat) : Int)))), (4, some (outV (flatP T (l.take i) ++ (splitP T l[i]).take x.1) x.2.1)), (5, some (byV (flatP T (l.take i) ++ (splitP T l[i]).take x.1) x.2.2.1))], bxs (flatP T (l.take i) ++ (splitP T l[i]).take x.1) x.2.1 x.2.2.1, [], x.2.2.2⟩)
        (fun x => x.1 ≤ (splitP T l[i]).length ∧ (flatP T (l.take i) ++ (splitP T l[i]).take x.1 ≠ [] → x.2.1 < x.2.2.2 ∧ x.2.2.1 < x.2.2.2 ∧ x.2.1 ≠ x.2.2.1)) (fun x => (splitP T l[i]).length - x.1) (fun x y h => by
          have := congrArg (cnt 22) h
          simp [cnt, Ab.look] at this
          rw [this]) (0, t1, t2, nx + 1) ((weak_untip 20 (by simp only [go_sem, Nat.reduceAdd, Nat.reduceEqDiff, Nat.reduceLT, reduceIte, reduceCtorEq, Nat.reduceBEq, Int.reduceLT, Int.reduceToNat, Int.reducePow, Nat.reduceLeDiff, Int.reduceLE, Nat.reduceMul, Nat.reduceSub]; rfl)).trans (weak_forget ?_ ?_ (List.nil_sublist _))) ⟨Nat.zero_le _, fun h => ?_⟩ ?_
      · simp only [List.take_zero, List.append_nil, Int.natCast_zero, go_sem, Nat.reduceAdd, Nat.reduceEqDiff, Nat.reduceLT, reduceIte, reduceCtorEq, Nat.reduceBEq, Int.reduceLT, Int.reduceToNat, Int.reducePow, Nat.reduceLeDiff, Int.reduceLE, Nat.reduceMul, Nat.reduceSub, slotsSub]
      · simp only [List.take_zero, List.append_nil]; exact List.Sublist.refl _
      · simp only [List.take_zero, List.append_nil] at h
        have := hid h
        simp only; omega
      · generalize splitP T l[i] = S at hs3 hnext ⊢
        generalize flatP T (l.take i) = F at hfl hnext ⊢
        clear hid
        rintro ⟨j, t1, t2, nx⟩ ⟨hj, hid⟩
        simp only at hj hid
        simp only [go_sem, Nat.reduceAdd, Nat.reduceEqDiff, Nat.reduceLT, reduceIte, reduceCtorEq, Nat.reduceBEq, Int.reduceLT, Int.reduceToNat, Int.reducePow, Nat.reduceLeDiff, Int.reduceLE, Nat.reduceMul, Nat.reduceSub]
        rcases Nat.lt_or_eq_of_le hj with hjl | heq
        · have hwj : IntKind.i64.wrap ((j : Int) + 1) = ((j + 1 : Nat) : Int) := by rw [wrap_i64 _ (by omega) (by omega)]; omega
          have hsn : F ++ S.take (j + 1) = F ++ S.take j ++ [S[j]] := by rw [List.take_succ_eq_append_getElem hjl, List.append_assoc]
          have hxl : (F ++ S.take j).length ≤ 1000000 := by simp; omega
          simp only [dec_lt hjl, hjl, runes_at hjl, runes_length, go_sem, Nat.reduceAdd, Nat.reduceEqDiff, Nat.reduceLT, reduceIte, reduceCtorEq, Nat.reduceBEq, Int.reduceLT, Int.reduceToNat, Int.reducePow, Nat.reduceLeDiff, Int.reduceLE, Nat.reduceMul, Nat.reduceSub]
          generalize F ++ S.take j = xs at hid hsn hxl ⊢
          generalize S[j] = x at hsn ⊢
          cases xs with
          | nil =>
            have e0 : (nx + 1 = nx) = False := eq_false (by omega)
            simp only [List.nil_append] at hsn
            simp only [outV, byV, bxs, app_wrap, go_sem, Nat.reduceAdd, Nat.reduceEqDiff, Nat.reduceLT, reduceIte, reduceCtorEq, Nat.reduceBEq, Int.reduceLT, Int.reduceToNat, Int.reducePow, Nat.reduceLeDiff, Int.reduceLE, Nat.reduceMul, Nat.reduceSub]
            refine callGo_pure (class_pure x) (by rfl) ?_
            simp only [app_wrap, hwj, go_sem, Nat.reduceAdd, Nat.reduceEqDiff, Nat.reduceLT, reduceIte, reduceCtorEq, Nat.reduceBEq, Int.reduceLT, Int.reduceToNat, Int.reducePow, Nat.reduceLeDiff, Int.reduceLE, Nat.reduceMul, Nat.reduceSub]
            refine ⟨(j + 1, nx + 1, nx + 3, nx + 4), ?_, ⟨by simp only; omega, fun _ => by simp only; omega⟩, by simp only; omega⟩
            simp only [hsn, outV, byV, bxs]
            refine weak_forget ?_ ?_ (List.nil_sublist _)
            · simp only [go_sem, Nat.reduceAdd, Nat.reduceEqDiff, Nat.reduceLT, reduceIte, reduceCtorEq, Nat.reduceBEq, Int.reduceLT, Int.reduceToNat, Int.reducePow, Nat.reduceLeDiff, Int.reduceLE, Nat.reduceMul, Nat.reduceSub, slotsSub]
            · exact List.Sublist.refl _
          | cons x0 xs0 =>
            obtain ⟨q1, q2, q3⟩ := hid (by simp)
            have hlen : (x0 :: xs0).length ≤ 1000000 := hxl
            generalize hxs : x0 :: xs0 = xs at hsn hlen ⊢
            have hxs0 : xs ≠ [] := by rw [← hxs]; simp
            have hxs1 : xs ++ [x] ≠ [] := by simp
            have e1 : (t2 = t1) = False := eq_false (fun h => q3 h.symm)
            have e2 : (nx + 1 = t2) = False := eq_false (by omega)
            have r1 := fun tp t => app_row (bx := [(t2, cK xs), (t1, cX xs)]) (n := xs.length) (id := t1) tp 21 (.int .i32 x) t (cells := cX xs) (by simp only [e1, unOb_cX, go_sem, Nat.reduceAdd, Nat.reduceEqDiff, Nat.reduceLT, reduceIte, reduceCtorEq, Nat.reduceBEq, Int.reduceLT, Int.reduceToNat, Int.reducePow, Nat.reduceLeDiff, Int.reduceLE, Nat.reduceMul, Nat.reduceSub]) (cX_length xs)
            have r2 := fun tp t => app_row (bx := [(nx + 1, cX (xs ++ [x])), (t2, cK xs)]) (n := xs.length) (id := t2) tp 3 (.int .i64 (cls x : Int)) t (cells := cK xs) (by simp only [e2, unOb_cK, go_sem, Nat.reduceAdd, Nat.reduceEqDiff, Nat.reduceLT, reduceIte, reduceCtorEq, Nat.reduceBEq, Int.reduceLT, Int.reduceToNat, Int.reducePow, Nat.reduceLeDiff, Int.reduceLE, Nat.reduceMul, Nat.reduceSub]) (cK_length xs)
            simp only [outV_ne hxs0, byV_ne hxs0, bxs_ne hxs0, r1, cX_snoc, e1, go_sem, Nat.reduceAdd, Nat.reduceEqDiff, Nat.reduceLT, reduceIte, reduceCtorEq, Nat.reduceBEq, Int.reduceLT, Int.reduceToNat, Int.reducePow, Nat.reduceLeDiff, Int.reduceLE, Nat.reduceMul, Nat.reduceSub]
            refine ⟨by omega, ?_⟩
            refine callGo_pure (class_pure x) (by rfl) ?_
            simp only [r2, cK_snoc, e2, hwj, go_sem, Nat.reduceAdd, Nat.reduceEqDiff, Nat.reduceLT, reduceIte, reduceCtorEq, Nat.reduceBEq, Int.reduceLT, Int.reduceToNat, Int.reducePow, Nat.reduceLeDiff, Int.reduceLE, Nat.reduceMul, Nat.reduceSub]
            refine ⟨by omega, (j + 1, nx + 1, nx + 3, nx + 4), ?_, ⟨by simp only; omega, fun _ => by simp only; omega⟩, by simp only; omega⟩
            simp only [hsn, outV_ne hxs1, byV_ne hxs1, bxs_ne hxs1, List.length_append, List.length_cons, List.length_nil, Nat.zero_add]
            refine weak_forget ?_ ?_ (List.nil_sublist _)
            · simp only [go_sem, Nat.reduceAdd, Nat.reduceEqDiff, Nat.reduceLT, reduceIte, reduceCtorEq, Nat.reduceBEq, Int.reduceLT, Int.reduceToNat, Int.reducePow, Nat.reduceLeDiff, Int.reduceLE, Nat.reduceMul, Nat.reduceSub, slotsSub]
            · exact List.Sublist.refl _
        · subst heq
          simp only [List.take_length, hnext] at hid ⊢
          simp only [dec_irr, hw, go_sem, Nat.reduceAdd, Nat.reduceEqDiff, Nat.reduceLT, reduceIte, reduceCtorEq, Nat.reduceBEq, Int.reduceLT, Int.reduceToNat, Int.reducePow, Nat.reduceLeDiff, Int.reduceLE, Nat.reduceMul, Nat.reduceSub]
          refine ⟨(i + 1, t1, t2, nx), weak_forget ?_ (List.Sublist.refl _) (List.Sublist.refl _), ⟨by simp only; omega, hid⟩, by simp only; omega⟩
          simp only [go_sem, Nat.reduceAdd, Nat.reduceEqDiff, Nat.reduceLT, reduceIte, reduceCtorEq, Nat.reduceBEq, Int.reduceLT, Int.reduceToNat, Int.reducePow, Nat.reduceLeDiff, Int.reduceLE, Nat.reduceMul, Nat.reduceSub, slotsSub]
    · subst heq
      have hF0 : flatP T l ≠ [] := by
        cases l with
        | nil => exact absurd rfl hne
        | cons x l =>
          rw [flat_cons]
          have : splitP T x ≠ [] := splitP_ne x
          intro h
          exact this (List.append_eq_nil_iff.1 h).1
      have hFl : (flatP T l).length ≤ 3000 := by
        have := flat_len l
        omega
      simp only [List.take_length] at hid
      obtain ⟨q1, q2, q3⟩ := hid hF0
      simp only [dec_irr, List.take_length, outV_ne hF0, byV_ne hF0, bxs_ne hF0, go_sem, Nat.reduceAdd, Nat.reduceEqDiff, Nat.reduceLT, reduceIte, reduceCtorEq, Nat.reduceBEq, Int.reduceLT, Int.reduceToNat, Int.reducePow, Nat.reduceLeDiff, Int.reduceLE, Nat.reduceMul, Nat.reduceSub]
      have hn : nfdP T cls l = canon cls (flatP T l) := rfl
      rw [hn, canon_length] at hK
      generalize flatP T l = F at hF0 hFl hK hid ⊢
      clear hid hn
      refine loop_by (α := Nat × List Int × Nat) (fun x => ⟨[(4, some (.rf (.row 21 1 0 F.length) 0)), (5, some (.rf (.row 3 1 0 F.length) 1)), (10, some (.fn (.func 85) [] [])), (11, some (.lit (.int .i64 ((x.1 : Nat) : Int))))], two2 x.2.1, [], x.2.2⟩)
        (fun x => x.2.1.length = F.length ∧ 2 ≤ x.2.2 ∧ ((∃ P R, x.2.1 = P ++ R ∧ P.length = x.1 ∧ canon cls F = P ++ canon cls R) ∨ (x.1 = F.length + 1 ∧ x.2.1 = canon cls F))) (fun x => F.length + 1 - x.1) (fun x y h => by
          have := congrArg (cnt 11) h
          simp [cnt, Ab.look] at this
          rw [this]) (0, F, 2) ?_ ⟨rfl, Nat.le_refl _, .inl ⟨[], F, rfl, rfl, rfl⟩⟩ ?_
      · refine weak_by [t1, t2] (by simp; omega) rfl ?_ ?_ trivial (by simp)
        · simp only [go_sem, Nat.reduceAdd, Nat.reduceEqDiff, Nat.reduceLT, reduceIte, reduceCtorEq, Nat.reduceBEq, Int.reduceLT, Int.reduceToNat, Int.reducePow, Nat.reduceLeDiff, Int.reduceLE, Nat.reduceMul, Nat.reduceSub, slotsBy, boxesBy, tipsBy, rawAt, nm, AV.ren, AV.renL, AV.under, AV.underL, List.all_nil, List.all_cons, bne_self_eq_false, List.getD_cons_zero, List.getD_cons_succ, List.length_nil, List.length_cons, and_true, true_and, Int.natCast_zero]
        · have e1 : (t2 = t1) = False := eq_false (by omega)
          have u1 := cX_under 2 F
          have u2 := cK_under 2 F
          have v1 : ∀ f, AV.renL f (cX F) = cX F := fun f => AV.renL_under0 f _ (cX_under 0 F)
          have v2 : ∀ f, AV.renL f (cK F) = cK F := fun f => AV.renL_under0 f _ (cK_under 0 F)
          simp only [two2, e1, u1, u2, v1, v2, go_sem, Nat.reduceAdd, Nat.reduceEqDiff, Nat.reduceLT, reduceIte, reduceCtorEq, Nat.reduceBEq, Int.reduceLT, Int.reduceToNat, Int.reducePow, Nat.reduceLeDiff, Int.reduceLE, Nat.reduceMul, Nat.reduceSub, slotsBy, boxesBy, tipsBy, rawAt, nm, AV.ren, AV.renL, AV.under, AV.underL, List.all_nil, List.all_cons, bne_self_eq_false, List.getD_cons_zero, List.getD_cons_succ, List.length_nil, List.length_cons, and_true, true_and]
          decide
      · rintro ⟨at_, L, nx1⟩ ⟨hLl, hx1, hc⟩
        simp only at hLl hx1 hc
        simp only [go_sem, Nat.reduceAdd, Nat.reduceEqDiff, Nat.reduceLT, reduceIte, reduceCtorEq, Nat.reduceBEq, Int.reduceLT, Int.reduceToNat, Int.reducePow, Nat.reduceLeDiff, Int.reduceLE, Nat.reduceMul, Nat.reduceSub]
        have hend : ∀ L', L' = canon cls F → K (.tu [.rf (.row 21 1 0 F.length) 0, .rf (.row 3 1 0 F.length) 1]) (two2 L') [] nx1 := fun L' h => by rw [h]; exact hK nx1 hx1
        rcases hc with ⟨P, R, rfl, rfl, hC⟩ | ⟨rfl, hC⟩
        · rw [List.length_append] at hLl
          rcases R.eq_nil_or_concat with hR | ⟨_, _, hR⟩
          · subst hR
            have e1 : decide (((P.length : Nat) : Int) < ((F.length : Nat) : Int)) = false := dec_nlt (by simp at hLl; omega)
            simp only [e1, go_sem, Nat.reduceAdd, Nat.reduceEqDiff, Nat.reduceLT, reduceIte, reduceCtorEq, Nat.reduceBEq, Int.reduceLT, Int.reduceToNat, Int.reducePow, Nat.reduceLeDiff, Int.reduceLE, Nat.reduceMul, Nat.reduceSub]
            exact ⟨.inr trivial, _, by simp only [resAV, resL, resOne, go_sem, Nat.reduceAdd, Nat.reduceEqDiff, Nat.reduceLT, reduceIte, reduceCtorEq, Nat.reduceBEq, Int.reduceLT, Int.reduceToNat, Int.reducePow, Nat.reduceLeDiff, Int.reduceLE, Nat.reduceMul, Nat.reduceSub], hend _ (by rw [hC]; simp [canon])⟩
          · have hRl : 0 < R.length := by rw [hR]; simp
            clear hR
            have e1 : decide (((P.length : Nat) : Int) < ((F.length : Nat) : Int)) = true := dec_lt (by omega)
            simp only [e1, go_sem, Nat.reduceAdd, Nat.reduceEqDiff, Nat.reduceLT, reduceIte, reduceCtorEq, Nat.reduceBEq, Int.reduceLT, Int.reduceToNat, Int.reducePow, Nat.reduceLeDiff, Int.reduceLE, Nat.reduceMul, Nat.reduceSub]
            have hin : (if P.length ≤ F.length ∧ F.length ≤ F.length then some (P.length, F.length) else none : Option (Nat × Nat)) = some (P.length, F.length) := if_pos ⟨by omega, Nat.le_refl _⟩
            have hsub : F.length - P.length = R.length := by omega
            simp only [hin, hsub, Nat.mul_one, go_sem, Nat.reduceAdd, Nat.reduceEqDiff, Nat.reduceLT, reduceIte, reduceCtorEq, Nat.reduceBEq, Int.reduceLT, Int.reduceToNat, Int.reducePow, Nat.reduceLeDiff, Int.reduceLE, Nat.reduceMul, Nat.reduceSub]
            refine callGo_ok (indexZ_ok P R hx1 (by omega) fun nx2 hx2 => ?_)
            cases hz : R.findIdx? fun x => cls x == 0 with
            | none =>
              have hall : ∀ x ∈ R, 0 < cls x := fun x hx => by
                have := List.findIdx?_eq_none_iff.1 hz x hx
                simp at this; omega
              have e2 : decide (firstZ R < 0) = true := by simp [firstZ, hz, rowI]
              have w1 : IntKind.i64.wrap (((F.length : Nat) : Int) - ((P.length : Nat) : Int)) = ((R.length : Nat) : Int) := by rw [wrap_i64 _ (by omega) (by omega)]; omega
              have w2 : IntKind.i64.wrap (((P.length : Nat) : Int) + ((R.length : Nat) : Int)) = ((P.length + R.length : Nat) : Int) := by rw [wrap_i64 _ (by omega) (by omega)]; omega
              have w3 : IntKind.i64.wrap (((R.length : Nat) : Int) + 1) = ((R.length + 1 : Nat) : Int) := by rw [wrap_i64 _ (by omega) (by omega)]; omega
              have w4 : IntKind.i64.wrap (((P.length : Nat) : Int) + ((R.length + 1 : Nat) : Int)) = ((F.length + 1 : Nat) : Int) := by rw [wrap_i64 _ (by omega) (by omega)]; omega
              have hin2 : (if P.length ≤ P.length + R.length ∧ P.length + R.length ≤ F.length then some (P.length, P.length + R.length) else none : Option (Nat × Nat)) = some (P.length, P.length + R.length) := if_pos ⟨by omega, by omega⟩
              simp only [e2, w1, w2, hin2, Nat.add_sub_cancel_left, Nat.mul_one, go_sem, Nat.reduceAdd, Nat.reduceEqDiff, Nat.reduceLT, reduceIte, reduceCtorEq, Nat.reduceBEq, Int.reduceLT, Int.reduceToNat, Int.reducePow, Nat.reduceLeDiff, Int.reduceLE, Nat.reduceMul, Nat.reduceSub]
              refine callGo_ok ?_
              rw [show two2 (P ++ R) = St P [] R by simp [St]]
              refine Stable_ok P [] R rfl hall (by omega) hx2 fun r nx3 hx3 => ?_
              simp only [w3, w4, go_sem, Nat.reduceAdd, Nat.reduceEqDiff, Nat.reduceLT, reduceIte, reduceCtorEq, Nat.reduceBEq, Int.reduceLT, Int.reduceToNat, Int.reducePow, Nat.reduceLeDiff, Int.reduceLE, Nat.reduceMul, Nat.reduceSub]
              refine ⟨(F.length + 1, P ++ canon cls R, nx3), ?_, ⟨by simp only [List.length_append, canon_length]; omega, hx3, .inr ⟨rfl, by rw [hC]⟩⟩, by simp only; omega⟩
              rw [show St P [] (canon cls R) = two2 (P ++ canon cls R) by simp [St]]
              refine weak_forget ?_ (List.Sublist.refl _) (List.Sublist.refl _)
              simp only [go_sem, Nat.reduceAdd, Nat.reduceEqDiff, Nat.reduceLT, reduceIte, reduceCtorEq, Nat.reduceBEq, Int.reduceLT, Int.reduceToNat, Int.reducePow, Nat.reduceLeDiff, Int.reduceLE, Nat.reduceMul, Nat.reduceSub, slotsSub]
            | some k =>
              obtain ⟨hk, hz1, hz2⟩ := List.findIdx?_eq_some_iff_getElem.1 hz
              have hall : ∀ x ∈ R.take k, 0 < cls x := fun x hx => by
                obtain ⟨j, hj, rfl⟩ := List.mem_take_iff_getElem.1 hx
                have := hz2 j (by omega)
                simp at this; omega
              have hs0 : cls R[k] = 0 := by simpa using hz1
              have hR : R = R.take k ++ R[k] :: R.drop (k + 1) := by rw [← List.drop_eq_getElem_cons hk, List.take_append_drop]
              have hkl : (R.take k).length = k := by simp; omega
              have hdl : (R.drop (k + 1)).length + (k + 1) = R.length := by simp; omega
              have hf : firstZ R = (k : Int) := by simp [firstZ, hz, rowI]
              have e2 : decide ((k : Int) < 0) = false := by simp only [decide_eq_false_iff_not]; omega
              generalize R.take k = M at hR hkl hall
              generalize R[k] = s0 at hR hs0
              generalize R.drop (k + 1) = Y at hR hdl
              have w2 : IntKind.i64.wrap (((P.length : Nat) : Int) + (k : Int)) = ((P.length + k : Nat) : Int) := by rw [wrap_i64 _ (by omega) (by omega)]; omega
              have w3 : IntKind.i64.wrap ((k : Int) + 1) = ((k + 1 : Nat) : Int) := by rw [wrap_i64 _ (by omega) (by omega)]; omega
              have w4 : IntKind.i64.wrap (((P.length : Nat) : Int) + ((k + 1 : Nat) : Int)) = ((P.length + (k + 1) : Nat) : Int) := by rw [wrap_i64 _ (by omega) (by omega)]; omega
              have hin2 : (if P.length ≤ P.length + k ∧ P.length + k ≤ F.length then some (P.length, P.length + k) else none : Option (Nat × Nat)) = some (P.length, P.length + k) := if_pos ⟨by omega, by omega⟩
              simp only [hf, e2, w2, hin2, Nat.add_sub_cancel_left, Nat.mul_one, go_sem, Nat.reduceAdd, Nat.reduceEqDiff, Nat.reduceLT, reduceIte, reduceCtorEq, Nat.reduceBEq, Int.reduceLT, Int.reduceToNat, Int.reducePow, Nat.reduceLeDiff, Int.reduceLE, Nat.reduceMul, Nat.reduceSub]
              refine callGo_ok ?_
              rw [show two2 (P ++ R) = St P (s0 :: Y) M by simp [St, hR]]
              refine Stable_ok P (s0 :: Y) M hkl hall (by omega) hx2 fun r nx3 hx3 => ?_
              simp only [w3, w4, go_sem, Nat.reduceAdd, Nat.reduceEqDiff, Nat.reduceLT, reduceIte, reduceCtorEq, Nat.reduceBEq, Int.reduceLT, Int.reduceToNat, Int.reducePow, Nat.reduceLeDiff, Int.reduceLE, Nat.reduceMul, Nat.reduceSub]
              refine ⟨(P.length + (k + 1), (P ++ canon cls M ++ [s0]) ++ Y, nx3), ?_, ⟨by simp only [List.length_append, List.length_cons, List.length_nil, canon_length]; omega, hx3, .inl ⟨P ++ canon cls M ++ [s0], Y, rfl, by simp only [List.length_append, List.length_cons, List.length_nil, canon_length]; omega, ?_⟩⟩, by simp only; omega⟩
              · rw [show St P (s0 :: Y) (canon cls M) = two2 ((P ++ canon cls M ++ [s0]) ++ Y) by simp [St]]
                refine weak_forget ?_ (List.Sublist.refl _) (List.Sublist.refl _)
                simp only [go_sem, Nat.reduceAdd, Nat.reduceEqDiff, Nat.reduceLT, reduceIte, reduceCtorEq, Nat.reduceBEq, Int.reduceLT, Int.reduceToNat, Int.reducePow, Nat.reduceLeDiff, Int.reduceLE, Nat.reduceMul, Nat.reduceSub, slotsSub]
              · rw [hC, hR, canon_starter cls hs0, canon_cons cls hs0]
                simp
        · have e1 : decide (((F.length + 1 : Nat) : Int) < ((F.length : Nat) : Int)) = false := dec_nlt (by omega)
          simp only [e1, go_sem, Nat.reduceAdd, Nat.reduceEqDiff, Nat.reduceLT, reduceIte, reduceCtorEq, Nat.reduceBEq, Int.reduceLT, Int.reduceToNat, Int.reducePow, Nat.reduceLeDiff, Int.reduceLE, Nat.reduceMul, Nat.reduceSub]
          exact ⟨.inr trivial, _, by simp only [resAV, resL, resOne, go_sem, Nat.reduceAdd, Nat.reduceEqDiff, Nat.reduceLT, reduceIte, reduceCtorEq, Nat.reduceBEq, Int.reduceLT, Int.reduceToNat, Int.reducePow, Nat.reduceLeDiff, Int.reduceLE, Nat.reduceMul, Nat.reduceSub], hend _ hC⟩
end Go.Proofs.Ytmhpjoadfgplgaa
