/-
Rows taken apart, as the document says: two change places as long as two are to. Conditions: none.
-/
import Derived.Test.YtmhpjoadfgplgaaNrmE
set_option linter.unusedSimpArgs false
set_option linter.unusedVariables false
set_option linter.unusedSectionVars false
namespace Go.Proofs.Ytmhpjoadfgplgaa
open Go Go.Ab
def a70 : ACode :=
  (.seq (.reg [⟨(.some 2), (.mv (.k (.int .i64 0))), .none⟩]) (.seq (.reg [⟨(.some 3), (.mv (.t 0)), .none⟩, ⟨(.some 4), (.call (.f 94) [(.t 3)]), .none⟩, ⟨(.some 5), (.fld 3 .none (.t 4)), .none⟩,
  ⟨(.some 6), (.cvI .i64 (.t 5)), .none⟩, ⟨(.some 2), (.mv (.t 6)), .none⟩]) .ret))
theorem c70 : Try.f70.body.bind (cCode Try.prog 7) = some a70 := by kernel_rfl
theorem r70 : Try.f70.results.toList = [(.tmp 2)] := by kernel_rfl
theorem n70 : Try.f70.ntmps = 7 := by kernel_rfl
theorem e70 : Enters Try.prog 70 := enters_of Try.func70 (by kernel_rfl) (by kernel_rfl)
def a32_L0 : ACode :=
  (.seq (.seq (.reg [⟨(.some 9), (.mv (.t 4)), .none⟩, ⟨(.some 10), (.mv (.t 0)), .none⟩, ⟨(.some 11), (.len (.t 10)), .none⟩, ⟨(.some 12), (.bin .lss (.t 9) (.t 11)), .none⟩]) (.cond (.t 12) .skip
  (.exit 0))) (.seq (.block 1 (.reg [⟨(.some 15), (.mv (.t 3)), .none⟩, ⟨(.some 16), (.mv (.t 0)), .none⟩, ⟨(.some 17), (.mv (.t 4)), .none⟩, ⟨(.some 18), (.ia 21 (.t 16) (.t 17)), .none⟩, ⟨(.some 19),
  (.ld .none (.t 18)), .none⟩, ⟨(.some 20), (.call (.f 31) [(.t 19)]), .none⟩, ⟨(.some 21), (.app 21 4 (.t 15) (.t 20)), .none⟩, ⟨(.some 3), (.mv (.t 21)), .none⟩])) (.reg [⟨(.some 13), (.mv (.t 4)),
  .none⟩, ⟨(.some 14), (.bin .add (.t 13) (.k (.int .i64 1))), .none⟩, ⟨(.some 4), (.mv (.t 14)), .none⟩])))
def a32_L1 : ACode :=
  (.seq (.seq (.reg [⟨(.some 22), (.mv (.t 5)), .none⟩]) (.cond (.t 22) .skip (.exit 2))) (.block 3 (.seq (.reg [⟨(.some 5), (.mv (.k (.bool false))), .none⟩]) (.seq (.reg [⟨(.some 6), (.mv (.k (.int
  .i64 1))), .none⟩]) (.block 4 (.loop (.seq (.seq (.reg [⟨(.some 23), (.mv (.t 6)), .none⟩, ⟨(.some 24), (.mv (.t 3)), .none⟩, ⟨(.some 25), (.len (.t 24)), .none⟩, ⟨(.some 26), (.bin .lss (.t 23) (.t
  25)), .none⟩]) (.cond (.t 26) .skip (.exit 4))) (.seq (.block 5 (.seq (.dreg [⟨(.some 29), (.mv (.t 3)), .none⟩, ⟨(.some 30), (.mv (.t 6)), .none⟩, ⟨(.some 31), (.bin .sub (.t 30) (.k (.int .i64 1))),
  .none⟩, ⟨(.some 32), (.ia 21 (.t 29) (.t 31)), .none⟩, ⟨(.some 33), (.ld .none (.t 32)), .none⟩, ⟨(.some 34), (.call (.f 70) [(.t 33)]), .none⟩, ⟨(.some 35), (.mv (.t 3)), .none⟩, ⟨(.some 36), (.mv
  (.t 6)), .none⟩, ⟨(.some 37), (.ia 21 (.t 35) (.t 36)), .none⟩, ⟨(.some 38), (.ld .none (.t 37)), .none⟩, ⟨(.some 39), (.call (.f 70) [(.t 38)]), .none⟩, ⟨(.some 7), (.mv (.t 34)), .none⟩, ⟨(.some 8),
  (.mv (.t 39)), .none⟩]) (.seq (.reg [⟨(.some 40), (.mv (.t 8)), .none⟩, ⟨(.some 41), (.bin .gtr (.t 40) (.k (.int .i64 0))), .none⟩, ⟨(.some 42), (.mv (.t 41)), .none⟩, ⟨(.some 43), (.mv (.t 7)),
  (.some (42, true))⟩, ⟨(.some 44), (.mv (.t 8)), (.some (42, true))⟩, ⟨(.some 45), (.bin .gtr (.t 43) (.t 44)), (.some (42, true))⟩, ⟨(.some 46), (.pick (.t 42) (.t 45) (.k (.bool false))), .none⟩])
  (.cond (.t 46) (.seq (.dreg [⟨(.some 47), (.mv (.t 3)), .none⟩, ⟨(.some 48), (.mv (.t 6)), .none⟩, ⟨(.some 49), (.bin .sub (.t 48) (.k (.int .i64 1))), .none⟩, ⟨(.some 50), (.mv (.t 3)), .none⟩,
  ⟨(.some 51), (.mv (.t 6)), .none⟩, ⟨(.some 52), (.mv (.t 3)), .none⟩, ⟨(.some 53), (.mv (.t 6)), .none⟩, ⟨(.some 54), (.ia 21 (.t 52) (.t 53)), .none⟩, ⟨(.some 55), (.ld .none (.t 54)), .none⟩,
  ⟨(.some 56), (.mv (.t 3)), .none⟩, ⟨(.some 57), (.mv (.t 6)), .none⟩, ⟨(.some 58), (.bin .sub (.t 57) (.k (.int .i64 1))), .none⟩, ⟨(.some 59), (.ia 21 (.t 56) (.t 58)), .none⟩, ⟨(.some 60), (.ld
  .none (.t 59)), .none⟩, ⟨(.some 61), (.ia 21 (.t 47) (.t 49)), .none⟩, ⟨.none, (.st 1 (.t 61) (.t 55)), .none⟩, ⟨(.some 62), (.ia 21 (.t 50) (.t 51)), .none⟩, ⟨.none, (.st 1 (.t 62) (.t 60)), .none⟩])
  (.reg [⟨(.some 5), (.mv (.k (.bool true))), .none⟩])) .skip)))) (.reg [⟨(.some 27), (.mv (.t 6)), .none⟩, ⟨(.some 28), (.bin .add (.t 27) (.k (.int .i64 1))), .none⟩, ⟨(.some 6), (.mv (.t 28)),
  .none⟩])))))))))
def a32 : ACode :=
  (.seq (.reg [⟨(.some 2), (.mv (.k (.slice .none 0 0))), .none⟩]) (.seq (.reg [⟨(.some 3), (.mv (.k (.slice .none 0 0))), .none⟩]) (.seq (.seq (.reg [⟨(.some 4), (.mv (.k (.int .i64 0))), .none⟩])
  (.block 0 (.loop a32_L0))) (.seq (.reg [⟨(.some 5), (.mv (.k (.bool true))), .none⟩]) (.seq (.block 2 (.loop a32_L1)) (.seq (.reg [⟨(.some 63), (.mv (.t 3)), .none⟩, ⟨(.some 2), (.mv (.t 63)),
  .none⟩]) .ret))))))
theorem c32 : Try.f32.body.bind (cCode Try.prog 64) = some a32 := by kernel_rfl
theorem r32 : Try.f32.results.toList = [(.tmp 2)] := by kernel_rfl
theorem n32 : Try.f32.ntmps = 64 := by kernel_rfl
theorem e32 : Enters Try.prog 32 := enters_of Try.func32 (by kernel_rfl) (by kernel_rfl)

set_option maxRecDepth 10000 in
theorem refClass_pure (r : Int) (hr : -2147483648 ≤ r ∧ r ≤ 2147483647) : Pure Try.prog 70 [.lit (.int .i32 r)] [] (.lit (.int .i64 (cls r : Int))) := by
  refine pure0 Try.func70 c70 n70 e70 r70 (by simp) rfl ?_
  have hc := ccc_eq r
  have hw : IntKind.i64.wrap (rowAt r).ccc = (cls r : Int) := by rw [hc.1, wrap_i64 _ (by omega) (by omega)]
  simp only [a70, astart, argSlots, go_sem, Nat.reduceAdd, Nat.reduceEqDiff, Nat.reduceLT, reduceIte, reduceCtorEq, Nat.reduceBEq, Int.reduceLT, Int.reduceToNat, Int.reducePow, Nat.reduceLeDiff, Int.reduceLE, Nat.reduceMul, Nat.reduceSub]
  refine callGo_pure (refOf_pure r hr) (by rfl) ?_
  simp only [Row.prop, hw, go_sem, Nat.reduceAdd, Nat.reduceEqDiff, Nat.reduceLT, reduceIte, reduceCtorEq, Nat.reduceBEq, Int.reduceLT, Int.reduceToNat, Int.reducePow, Nat.reduceLeDiff, Int.reduceLE, Nat.reduceMul, Nat.reduceSub]
  simp only [Done, resAV, resL, resOne, look_nil, look_cons, Nat.reduceEqDiff, if_true, if_false, reduceIte, ite_true, ite_false, Nat.zero_ne_one, Nat.one_ne_zero, reduceCtorEq, true_or, or_true, true_and, Option.some.injEq, AV.lit.injEq, Value.int.injEq, Value.bool.injEq]

theorem runes_flat (xs : List Int) : (runes xs).flatten = xs.map fun n => .int .i32 n := by
  induction xs with
  | nil => rfl
  | cons x xs ih => simp only [runes, List.map_cons, List.flatten_cons, List.cons_append, List.nil_append] at ih ⊢; rw [ih]
theorem cX_lits (xs : List Int) : (xs.map fun n => (Value.int .i32 n)).map AV.lit = cX xs := by simp [cX]
theorem app_wrapL {S : List Int} (hS : S ≠ []) (bx : List (Nat × List AV)) (tp : List (Nat × TypeId)) (e : TypeId) (t : Option Nat) : rowApp bx tp e (.vx .wrap [.lit (.slice none 0 0)]) (.sl e (runes S) t) = some ⟨1, 0, S.length, cX S, bx, tp, 0⟩ := by
  have hl : 0 < S.length := by
    cases S with
    | nil => exact absurd rfl hS
    | cons x l => simp
  simp [rowApp, srcN, runes_flat, runes_length, cX_lits, hl, Nat.div_self hl, cX]
theorem app_rowL {bx : List (Nat × List AV)} (tp : List (Nat × TypeId)) (e : TypeId) {n id : Nat} {cells : List AV} (S : List Int) (t : Option Nat) (hb : boxAt bx id = some cells) (hn : cells.length = n) :
    rowApp bx tp e (.rf (.row e 1 0 n) id) (.sl e (runes S) t) = some ⟨1, n, S.length, cells ++ cX S, delBox bx id, tp, 0⟩ := by
  subst hn
  simp [rowApp, srcN, hb, runes_flat, runes_length, cX]
theorem cX_lits' (xs : List Int) : xs.map (AV.lit ∘ fun n => Value.int .i32 n) = cX xs := by simp [cX]
theorem cX_append (a b : List Int) : cX a ++ cX b = cX (a ++ b) := by simp [cX]
theorem cX_inj {a b : List Int} (h : cX a = cX b) : a = b := by
  induction a generalizing b with
  | nil => cases b <;> simp [cX] at h ⊢
  | cons x a ih =>
    cases b with
    | nil => simp [cX] at h
    | cons y b =>
      simp only [cX, List.map_cons, List.cons.injEq, AV.lit.injEq, Value.int.injEq, true_and] at h
      rw [h.1, ih h.2]
def rowV (xs : List Int) (t : Nat) : List (Nat × List AV) := match xs with
  | [] => []
  | _ => [(t, cX xs)]
theorem rowV_ne {xs : List Int} (h : xs ≠ []) (t : Nat) : rowV xs t = [(t, cX xs)] := by cases xs <;> first | rfl | exact absurd rfl h

theorem falls_at {P Q : List Int} {x y : Int} (h : cls y < cls x) : falls cls (P ++ x :: y :: Q) = falls cls (P ++ y :: x :: Q) + 1 := falls_swap cls h P Q
theorem i32_swap {P Q : List Int} {x y : Int} (h : I32 (P ++ x :: y :: Q)) : I32 (P ++ y :: x :: Q) := by
  intro z hz
  refine h z ?_
  simp only [List.mem_append, List.mem_cons] at hz ⊢
  rcases hz with hz | rfl | rfl | hz
  · exact .inl hz
  · exact .inr (.inr (.inl rfl))
  · exact .inr (.inl rfl)
  · exact .inr (.inr (.inr hz))
theorem good_snoc {P : List Int} {x : Int} (h : Good cls P) (hx : ∀ P' y, P = P' ++ [y] → ¬(0 < cls x ∧ cls x < cls y)) : Good cls (P ++ [x]) := by
  induction P with
  | nil => exact ⟨trivial, trivial⟩
  | cons z P ih =>
    refine ⟨?_, ih h.2 fun P' y he => hx (z :: P') y (by rw [he]; rfl)⟩
    cases P with
    | nil => exact hx [] z rfl
    | cons w P => exact h.1

/-- The states of the passes. -/
def bSt (xs : List Int) (again : Bool) (t nx : Nat) : State := ⟨[(3, some (.rf (.row 21 1 0 xs.length) t)), (5, some (.lit (.bool again)))], [(t, cX xs)], [], nx⟩
def bSt2 (n i : Nat) (xs : List Int) (again : Bool) (t nx : Nat) : State := ⟨[(3, some (.rf (.row 21 1 0 n) t)), (5, some (.lit (.bool again))), (6, some (.lit (.int .i64 (i : Int))))], [(t, cX xs)], [], nx⟩

set_option maxRecDepth 10000 in
set_option maxHeartbeats 4000000 in
theorem refNFD_loop {F : List Int} (hF : F.length ≤ 10000) (h32 : I32 F) {Q : Exit → State → Prop} {s : State} {t nx : Nat} (ht : t < nx) (hw : Weak Try.prog 0 s (bSt F true t nx))
    (hQ : ∀ sl, Ab.look sl 3 = some (.rf (.row 21 1 0 (canon cls F).length) t) → Q (.exit 2) ⟨sl, [(t, cX (canon cls F))], [], nx⟩) : aloop Try.prog 0 (awp Try.prog 0 a32_L1) Q s := by
  refine loop_by (α := List Int × Bool) (fun x => bSt x.1 x.2 t nx)
    (fun x => x.1.length = F.length ∧ I32 x.1 ∧ canon cls x.1 = canon cls F ∧ (x.2 = false → Good cls x.1)) (fun x => 2 * falls cls x.1 + (if x.2 = true then 1 else 0)) (fun x y h => by
      simp only [bSt, State.mk.injEq, List.cons.injEq, Prod.mk.injEq, Option.some.injEq, AV.lit.injEq, Value.bool.injEq, true_and, and_true] at h
      obtain ⟨⟨_, h1⟩, h2⟩ := h
      rw [cX_inj h2, h1]) (F, true) hw ⟨rfl, h32, rfl, by simp⟩ ?_
  rintro ⟨xs, again⟩ ⟨hl, hx32, hcan, hgood⟩
  simp only at hl hx32 hcan hgood
  cases again with
  | false =>
    have hfin : xs = canon cls F := by rw [← hcan, canon_of_good cls (hgood rfl)]
    simp only [bSt, a32_L1, go_sem, Nat.reduceAdd, Nat.reduceEqDiff, Nat.reduceLT, reduceIte, reduceCtorEq, Nat.reduceBEq, Int.reduceLT, Int.reduceToNat, Int.reducePow, Nat.reduceLeDiff, Int.reduceLE, Nat.reduceMul, Nat.reduceSub]
    rw [hfin]
    exact hQ _ (by simp only [go_sem, Nat.reduceAdd, Nat.reduceEqDiff, Nat.reduceLT, reduceIte, reduceCtorEq, Nat.reduceBEq, Int.reduceLT, Int.reduceToNat, Int.reducePow, Nat.reduceLeDiff, Int.reduceLE, Nat.reduceMul, Nat.reduceSub])
  | true =>
    simp only [bSt, a32_L1, go_sem, Nat.reduceAdd, Nat.reduceEqDiff, Nat.reduceLT, reduceIte, reduceCtorEq, Nat.reduceBEq, Int.reduceLT, Int.reduceToNat, Int.reducePow, Nat.reduceLeDiff, Int.reduceLE, Nat.reduceMul, Nat.reduceSub]
    refine loop_by (α := Nat × List Int × Bool) (fun x => bSt2 xs.length x.1 x.2.1 x.2.2 t nx)
      (fun x => 1 ≤ x.1 ∧ x.1 ≤ xs.length + 1 ∧ x.2.1.length = xs.length ∧ I32 x.2.1 ∧ canon cls x.2.1 = canon cls F ∧ ((x.2.2 = true ∧ falls cls x.2.1 < falls cls xs) ∨ (x.2.2 = false ∧ x.2.1 = xs ∧ Good cls (xs.take x.1)))) (fun x => xs.length + 1 - x.1) (fun x y h => by
        have := congrArg (cnt 6) h
        simp [cnt, bSt2, Ab.look] at this
        rw [this]) (1, xs, false) (weak_forget ?_ (List.Sublist.refl _) (List.Sublist.refl _)) ⟨Nat.le_refl _, by omega, rfl, hx32, hcan, .inr ⟨rfl, rfl, ?_⟩⟩ ?_
    · simp only [go_sem, Nat.reduceAdd, Nat.reduceEqDiff, Nat.reduceLT, reduceIte, reduceCtorEq, Nat.reduceBEq, Int.reduceLT, Int.reduceToNat, Int.reducePow, Nat.reduceLeDiff, Int.reduceLE, Nat.reduceMul, Nat.reduceSub, slotsSub, Int.natCast_one]
    · cases xs with
      | nil => trivial
      | cons x l => exact ⟨trivial, trivial⟩
    · rintro ⟨i, ys, ag⟩ ⟨hi1, hi2, hyl, hy32, hycan, hst⟩
      simp only at hi1 hi2 hyl hy32 hycan hst
      simp only [bSt2, go_sem, Nat.reduceAdd, Nat.reduceEqDiff, Nat.reduceLT, reduceIte, reduceCtorEq, Nat.reduceBEq, Int.reduceLT, Int.reduceToNat, Int.reducePow, Nat.reduceLeDiff, Int.reduceLE, Nat.reduceMul, Nat.reduceSub]
      by_cases hlt : i < xs.length
      · have e1 : decide ((i : Int) < ((xs.length : Nat) : Int)) = true := dec_lt hlt
        have w1 : IntKind.i64.wrap ((i : Int) - 1) = ((i - 1 : Nat) : Int) := by rw [wrap_i64 _ (by omega) (by omega)]; omega
        have w2 : IntKind.i64.wrap ((i : Int) + 1) = ((i + 1 : Nat) : Int) := by rw [wrap_i64 _ (by omega) (by omega)]; omega
        have hi3 : i - 1 < xs.length := by omega
        have g1 := cX_get (xs := ys) (i := i - 1) (by omega)
        have g2 := cX_get (xs := ys) (i := i) (by omega)
        have r1 := hy32 ys[i - 1] (List.getElem_mem _)
        have r2 := hy32 ys[i] (List.getElem_mem _)
        have hsp : ys = ys.take (i - 1) ++ ys[i - 1] :: ys[i] :: ys.drop (i + 1) := by
          rw [show ys[i] :: ys.drop (i + 1) = ys.drop i from (List.drop_eq_getElem_cons (by omega)).symm]
          have h1 : ys.drop (i - 1) = ys[i - 1] :: ys.drop (i - 1 + 1) := List.drop_eq_getElem_cons (by omega)
          rw [show i - 1 + 1 = i by omega] at h1
          rw [← h1, List.take_append_drop]
        have htl : (ys.take (i - 1)).length = i - 1 := by simp; omega
        simp only [e1, w1, hlt, hi3, Nat.mul_one, unOb_cX, drop_get0, g1, g2, go_sem, Nat.reduceAdd, Nat.reduceEqDiff, Nat.reduceLT, reduceIte, reduceCtorEq, Nat.reduceBEq, Int.reduceLT, Int.reduceToNat, Int.reducePow, Nat.reduceLeDiff, Int.reduceLE, Nat.reduceMul, Nat.reduceSub]
        refine dcallGo_pure (refClass_pure _ r1) (by rfl) (by rfl) ?_
        simp only [e1, w1, hlt, hi3, Nat.mul_one, unOb_cX, drop_get0, g1, g2, go_sem, Nat.reduceAdd, Nat.reduceEqDiff, Nat.reduceLT, reduceIte, reduceCtorEq, Nat.reduceBEq, Int.reduceLT, Int.reduceToNat, Int.reducePow, Nat.reduceLeDiff, Int.reduceLE, Nat.reduceMul, Nat.reduceSub]
        refine dcallGo_pure (refClass_pure _ r2) (by rfl) (by rfl) ?_
        have hkeep : ¬(0 < cls ys[i] ∧ cls ys[i] < cls ys[i - 1]) → ((ag = true ∧ falls cls ys < falls cls xs) ∨ (ag = false ∧ ys = xs ∧ Good cls (xs.take (i + 1)))) := fun hng => by
          rcases hst with h | ⟨h1, h2, h3⟩
          · exact .inl h
          · refine .inr ⟨h1, h2, ?_⟩
            subst h2
            rw [List.take_succ_eq_append_getElem (by omega)]
            refine good_snoc h3 fun P' z he => ?_
            have hz : z = ys[i - 1] := by
              have h4 : (ys.take i)[i - 1]? = some ys[i - 1] := by rw [List.getElem?_take_of_lt (by omega), List.getElem?_eq_getElem]
              have h5 : P'.length = i - 1 := by
                have := congrArg List.length he
                simp at this; omega
              rw [he, List.getElem?_append_right (by omega), h5, Nat.sub_self] at h4
              simpa using h4
            rw [hz]; exact hng
        generalize ys[i - 1] = x at *
        generalize ys[i] = y at *
        by_cases hc1 : 0 < cls y
        · have e2 : decide (((cls y : Nat) : Int) > 0) = true := by simp; omega
          by_cases hc2 : cls y < cls x
          · have e3 : decide (((cls x : Nat) : Int) > ((cls y : Nat) : Int)) = true := dec_gt hc2
            have p1 := cX_put ys (i - 1) y (by omega)
            have p2 := cX_put (ys.set (i - 1) y) i x (by rw [List.length_set]; omega)
            have l1 : i - 1 + 1 ≤ ys.length := by omega
            have l2 : i + 1 ≤ ys.length := by omega
            have hset : (ys.set (i - 1) y).set i x = ys.take (i - 1) ++ y :: x :: ys.drop (i + 1) := by
              have := swp_next (ys.take (i - 1)) (ys.drop (i + 1)) x y
              rw [htl, ← hsp] at this
              rw [← this]
              unfold swp
              have q1 : ys.getD (i - 1 + 1) 0 = y := by
                rw [hsp, List.getD_eq_getElem?_getD, List.getElem?_append_right (by omega), htl]
                simp
              have q2 : ys.getD (i - 1) 0 = x := by
                rw [hsp, List.getD_eq_getElem?_getD, List.getElem?_append_right (by omega), htl]
                simp
              rw [q1, q2, show i - 1 + 1 = i by omega]
            simp only [e2, e3, w1, hlt, hi3, Nat.mul_one, unOb_cX, drop_get0, g1, g2, p1, p2, l1, l2, cX_length, List.length_set, w2, go_sem, Nat.reduceAdd, Nat.reduceEqDiff, Nat.reduceLT, reduceIte, reduceCtorEq, Nat.reduceBEq, Int.reduceLT, Int.reduceToNat, Int.reducePow, Nat.reduceLeDiff, Int.reduceLE, Nat.reduceMul, Nat.reduceSub]
            rw [hset]
            refine ⟨(i + 1, ys.take (i - 1) ++ y :: x :: ys.drop (i + 1), true), weak_forget ?_ (List.Sublist.refl _) (List.Sublist.refl _), ⟨by simp only; omega, by simp only; omega, by rw [← hyl]; conv => { rhs; rw [hsp] }; simp, ?_, ?_, .inl ⟨rfl, ?_⟩⟩, by simp only; omega⟩
            · simp only [go_sem, Nat.reduceAdd, Nat.reduceEqDiff, Nat.reduceLT, reduceIte, reduceCtorEq, Nat.reduceBEq, Int.reduceLT, Int.reduceToNat, Int.reducePow, Nat.reduceLeDiff, Int.reduceLE, Nat.reduceMul, Nat.reduceSub, slotsSub]
            · rw [hsp] at hy32; exact i32_swap hy32
            · rw [← hycan]
              conv => { rhs; rw [hsp] }
              exact canon_swap cls hc1 (by omega) (by omega) _ _
            · have hfa := falls_at (P := ys.take (i - 1)) (Q := ys.drop (i + 1)) hc2
              rw [← hsp] at hfa
              rcases hst with ⟨_, h⟩ | ⟨_, h, _⟩
              · simp only; omega
              · rw [← h]; simp only; omega
          · have e3 : decide (((cls x : Nat) : Int) > ((cls y : Nat) : Int)) = false := dec_ngt hc2
            have hng : (¬(0 < cls y ∧ cls y < cls x)) := by omega
            simp only [e2, e3, w1, w2, go_sem, Nat.reduceAdd, Nat.reduceEqDiff, Nat.reduceLT, reduceIte, reduceCtorEq, Nat.reduceBEq, Int.reduceLT, Int.reduceToNat, Int.reducePow, Nat.reduceLeDiff, Int.reduceLE, Nat.reduceMul, Nat.reduceSub]
            refine ⟨(i + 1, ys, ag), weak_forget ?_ (List.Sublist.refl _) (List.Sublist.refl _), ⟨by simp only; omega, by simp only; omega, hyl, hy32, hycan, ?_⟩, by simp only; omega⟩
            · simp only [go_sem, Nat.reduceAdd, Nat.reduceEqDiff, Nat.reduceLT, reduceIte, reduceCtorEq, Nat.reduceBEq, Int.reduceLT, Int.reduceToNat, Int.reducePow, Nat.reduceLeDiff, Int.reduceLE, Nat.reduceMul, Nat.reduceSub, slotsSub]
            · exact hkeep hng
        · have e2 : decide (((cls y : Nat) : Int) > 0) = false := by simp; omega
          have hng : (¬(0 < cls y ∧ cls y < cls x)) := by omega
          simp only [e2, w1, w2, go_sem, Nat.reduceAdd, Nat.reduceEqDiff, Nat.reduceLT, reduceIte, reduceCtorEq, Nat.reduceBEq, Int.reduceLT, Int.reduceToNat, Int.reducePow, Nat.reduceLeDiff, Int.reduceLE, Nat.reduceMul, Nat.reduceSub]
          refine ⟨(i + 1, ys, ag), weak_forget ?_ (List.Sublist.refl _) (List.Sublist.refl _), ⟨by simp only; omega, by simp only; omega, hyl, hy32, hycan, ?_⟩, by simp only; omega⟩
          · simp only [go_sem, Nat.reduceAdd, Nat.reduceEqDiff, Nat.reduceLT, reduceIte, reduceCtorEq, Nat.reduceBEq, Int.reduceLT, Int.reduceToNat, Int.reducePow, Nat.reduceLeDiff, Int.reduceLE, Nat.reduceMul, Nat.reduceSub, slotsSub]
          · exact hkeep hng
      · have e1 : decide ((i : Int) < ((xs.length : Nat) : Int)) = false := dec_nlt hlt
        simp only [e1, go_sem, Nat.reduceAdd, Nat.reduceEqDiff, Nat.reduceLT, reduceIte, reduceCtorEq, Nat.reduceBEq, Int.reduceLT, Int.reduceToNat, Int.reducePow, Nat.reduceLeDiff, Int.reduceLE, Nat.reduceMul, Nat.reduceSub]
        rcases hst with ⟨rfl, hf⟩ | ⟨rfl, rfl, hg⟩
        · refine ⟨(ys, true), ?_, ⟨by simp only; omega, hy32, hycan, by simp⟩, by simp only [if_true]; omega⟩
          simp only [bSt, hyl]
          refine weak_forget ?_ (List.Sublist.refl _) (List.Sublist.refl _)
          simp only [go_sem, Nat.reduceAdd, Nat.reduceEqDiff, Nat.reduceLT, reduceIte, reduceCtorEq, Nat.reduceBEq, Int.reduceLT, Int.reduceToNat, Int.reducePow, Nat.reduceLeDiff, Int.reduceLE, Nat.reduceMul, Nat.reduceSub, slotsSub]
        · refine ⟨(ys, false), ?_, ⟨by simp only; omega, hy32, hycan, fun _ => ?_⟩, by simp⟩
          · simp only [bSt]
            refine weak_forget ?_ (List.Sublist.refl _) (List.Sublist.refl _)
            simp only [go_sem, Nat.reduceAdd, Nat.reduceEqDiff, Nat.reduceLT, reduceIte, reduceCtorEq, Nat.reduceBEq, Int.reduceLT, Int.reduceToNat, Int.reducePow, Nat.reduceLeDiff, Int.reduceLE, Nat.reduceMul, Nat.reduceSub, slotsSub]
          · rwa [List.take_of_length_le (by omega)] at hg

/-- What would become a row is a slice, too. -/
theorem weak_unwrap {P : Program} {F : Nat} (t : Nat) {av : AV} {sl : List (Nat × Option AV)} {bx : List (Nat × List AV)} {tp : List (Nat × TypeId)} {nx : Nat} (h : Ab.look sl t = some (.vx .wrap [av])) : Weak P F ⟨sl, bx, tp, nx⟩ ⟨(t, some av) :: sl, bx, tp, nx⟩ := by
  intro N c a w hfl hr
  refine ⟨c, Ext.refl _ _ _, rfl, fun t' av' ht => ?_, hr.size, hr.marks, hr.round, hr.low, hr.mem, hr.next, hr.floor⟩
  simp only [Ab.look] at ht
  split at ht
  · rename_i he; subst he
    simp only [Option.some.injEq] at ht; subst ht
    have hv := hr.slots t _ h
    simp only [Rep, RepL] at hv
    obtain ⟨vs, ⟨h1, _⟩, v0, vs', h2, h3, h4⟩ := hv
    rw [h1] at h2
    simp only [List.cons.injEq] at h2
    rw [h2.1]; exact h3
  · exact hr.slots t' av' ht

theorem flat_i32 {l : List Int} (h : I32 l) : I32 (flatP T l) := by
  intro x hx
  obtain ⟨r, hr, hx2⟩ := List.mem_flatMap.1 hx
  exact split_i32 r (h r hr) x hx2

set_option maxRecDepth 10000 in
set_option maxHeartbeats 4000000 in
theorem refNFD_pure (l : List Int) (hl : l.length ≤ 1000) (h32 : I32 l) : Pure Try.prog 32 [rS l none] [21] (rS (nfdP T cls l) (some 0)) := by
  refine pure1W Try.func32 c32 n32 e32 r32 (by simp) ?_
  simp only [a32, astart, argSlots, go_sem, Nat.reduceAdd, Nat.reduceEqDiff, Nat.reduceLT, reduceIte, reduceCtorEq, Nat.reduceBEq, Int.reduceLT, Int.reduceToNat, Int.reducePow, Nat.reduceLeDiff, Int.reduceLE, Nat.reduceMul, Nat.reduceSub]
  have hfl := flat_len l
  refine loop_by (α := Nat × Nat × Nat) (fun x => ⟨[(0, some (rS l none)), (3, some (outV (flatP T (l.take x.1)) x.2.1)), (4, some (.lit (.int .i64 ((x.1 : Nat) : Int))))], rowV (flatP T (l.take x.1)) x.2.1, [], x.2.2⟩)
    (fun x => x.1 ≤ l.length ∧ (flatP T (l.take x.1) ≠ [] → x.2.1 < x.2.2)) (fun x => l.length - x.1) (fun x y h => by
      have := congrArg (cnt 4) h
      simp [cnt, Ab.look] at this
      rw [this]) (0, 0, 0) ?_ ⟨Nat.zero_le _, fun h => absurd rfl h⟩ ?_
  · refine (weak_wrap 3 (by simp only [go_sem, Nat.reduceAdd, Nat.reduceEqDiff, Nat.reduceLT, reduceIte, reduceCtorEq, Nat.reduceBEq, Int.reduceLT, Int.reduceToNat, Int.reducePow, Nat.reduceLeDiff, Int.reduceLE, Nat.reduceMul, Nat.reduceSub]) (.inl rfl)).trans (weak_forget ?_ (List.Sublist.refl _) (List.Sublist.refl _))
    simp only [List.take_zero, flatP, List.flatMap_nil, outV, Int.natCast_zero, go_sem, Nat.reduceAdd, Nat.reduceEqDiff, Nat.reduceLT, reduceIte, reduceCtorEq, Nat.reduceBEq, Int.reduceLT, Int.reduceToNat, Int.reducePow, Nat.reduceLeDiff, Int.reduceLE, Nat.reduceMul, Nat.reduceSub, slotsSub]
  · rintro ⟨i, t, nx⟩ ⟨hi, hid⟩
    simp only at hi hid
    simp only [a32_L0, go_sem, Nat.reduceAdd, Nat.reduceEqDiff, Nat.reduceLT, reduceIte, reduceCtorEq, Nat.reduceBEq, Int.reduceLT, Int.reduceToNat, Int.reducePow, Nat.reduceLeDiff, Int.reduceLE, Nat.reduceMul, Nat.reduceSub]
    rcases Nat.lt_or_eq_of_le hi with hlt | heq
    · have hr := h32 l[i] (List.getElem_mem hlt)
      have hs3 := splitP_len l[i]
      have hsne := splitP_ne l[i]
      have hw : IntKind.i64.wrap ((i : Int) + 1) = ((i + 1 : Nat) : Int) := by rw [wrap_i64 _ (by omega) (by omega)]; omega
      have hnext : flatP T (l.take i) ++ splitP T l[i] = flatP T (l.take (i + 1)) := by
        rw [List.take_succ_eq_append_getElem hlt, flat_append, flat_cons]; simp [flatP]
      have hil := flat_len (l.take i)
      rw [List.length_take] at hil
      simp only [dec_lt hlt, hlt, runes_at hlt, runes_length, go_sem, Nat.reduceAdd, Nat.reduceEqDiff, Nat.reduceLT, reduceIte, reduceCtorEq, Nat.reduceBEq, Int.reduceLT, Int.reduceToNat, Int.reducePow, Nat.reduceLeDiff, Int.reduceLE, Nat.reduceMul, Nat.reduceSub]
      refine callGo_pure (refSplit_pure l[i] hr) (by rfl) ?_
      simp only [go_sem, Nat.reduceAdd, Nat.reduceEqDiff, Nat.reduceLT, reduceIte, reduceCtorEq, Nat.reduceBEq, Int.reduceLT, Int.reduceToNat, Int.reducePow, Nat.reduceLeDiff, Int.reduceLE, Nat.reduceMul, Nat.reduceSub]
      have hne1 : flatP T (l.take (i + 1)) ≠ [] := by
        rw [← hnext]
        intro h
        exact hsne (List.append_eq_nil_iff.1 h).2
      by_cases hx : flatP T (l.take i) = []
      · rw [hx] at hnext ⊢
        rw [List.nil_append] at hnext
        simp only [outV, rowV, app_wrapL hsne, go_sem, Nat.reduceAdd, Nat.reduceEqDiff, Nat.reduceLT, reduceIte, reduceCtorEq, Nat.reduceBEq, Int.reduceLT, Int.reduceToNat, Int.reducePow, Nat.reduceLeDiff, Int.reduceLE, Nat.reduceMul, Nat.reduceSub]
        refine ⟨by omega, ?_⟩
        simp only [hw, go_sem, Nat.reduceAdd, Nat.reduceEqDiff, Nat.reduceLT, reduceIte, reduceCtorEq, Nat.reduceBEq, Int.reduceLT, Int.reduceToNat, Int.reducePow, Nat.reduceLeDiff, Int.reduceLE, Nat.reduceMul, Nat.reduceSub]
        refine ⟨(i + 1, nx + 1, nx + 2), ?_, ⟨by simp only; omega, fun _ => by simp only; omega⟩, by simp only; omega⟩
        simp only [outV_ne hne1, rowV_ne hne1, ← hnext]
        refine weak_forget ?_ (List.Sublist.refl _) (List.nil_sublist _)
        simp only [go_sem, Nat.reduceAdd, Nat.reduceEqDiff, Nat.reduceLT, reduceIte, reduceCtorEq, Nat.reduceBEq, Int.reduceLT, Int.reduceToNat, Int.reducePow, Nat.reduceLeDiff, Int.reduceLE, Nat.reduceMul, Nat.reduceSub, slotsSub]
      · have r1 := fun tp tt => app_rowL (bx := [(t, cX (flatP T (l.take i)))]) (n := (flatP T (l.take i)).length) (id := t) tp 21 (splitP T l[i]) tt (cells := cX (flatP T (l.take i))) (by simp only [unOb_cX, go_sem, Nat.reduceAdd, Nat.reduceEqDiff, Nat.reduceLT, reduceIte, reduceCtorEq, Nat.reduceBEq, Int.reduceLT, Int.reduceToNat, Int.reducePow, Nat.reduceLeDiff, Int.reduceLE, Nat.reduceMul, Nat.reduceSub]) (cX_length _)
        simp only [outV_ne hx, rowV_ne hx, r1, cX_append, hnext, go_sem, Nat.reduceAdd, Nat.reduceEqDiff, Nat.reduceLT, reduceIte, reduceCtorEq, Nat.reduceBEq, Int.reduceLT, Int.reduceToNat, Int.reducePow, Nat.reduceLeDiff, Int.reduceLE, Nat.reduceMul, Nat.reduceSub]
        refine ⟨by omega, ?_⟩
        simp only [hw, go_sem, Nat.reduceAdd, Nat.reduceEqDiff, Nat.reduceLT, reduceIte, reduceCtorEq, Nat.reduceBEq, Int.reduceLT, Int.reduceToNat, Int.reducePow, Nat.reduceLeDiff, Int.reduceLE, Nat.reduceMul, Nat.reduceSub]
        refine ⟨(i + 1, nx + 1, nx + 2), ?_, ⟨by simp only; omega, fun _ => by simp only; omega⟩, by simp only; omega⟩
        simp only [outV_ne hne1, rowV_ne hne1]
        refine weak_forget ?_ (List.Sublist.refl _) (List.nil_sublist _)
        simp only [← hnext, List.length_append, go_sem, Nat.reduceAdd, Nat.reduceEqDiff, Nat.reduceLT, reduceIte, reduceCtorEq, Nat.reduceBEq, Int.reduceLT, Int.reduceToNat, Int.reducePow, Nat.reduceLeDiff, Int.reduceLE, Nat.reduceMul, Nat.reduceSub, slotsSub]
    · subst heq
      simp only [List.take_length] at hid
      simp only [dec_irr, List.take_length, go_sem, Nat.reduceAdd, Nat.reduceEqDiff, Nat.reduceLT, reduceIte, reduceCtorEq, Nat.reduceBEq, Int.reduceLT, Int.reduceToNat, Int.reducePow, Nat.reduceLeDiff, Int.reduceLE, Nat.reduceMul, Nat.reduceSub]
      by_cases hx : flatP T l = []
      · have hn0 : nfdP T cls l = [] := by unfold nfdP; rw [hx]; rfl
        rw [hx, hn0]
        simp only [outV, rowV]
        have e1 : decide ((1 : Int) < 0) = false := rfl
        refine loop_by (α := Bool) (fun b => ⟨[(3, some (.vx .wrap [.lit (.slice none 0 0)])), (5, some (.lit (.bool b)))], [], [], nx⟩) (fun _ => True) (fun b => if b = true then 1 else 0) (fun x y h => by
          simp only [State.mk.injEq, List.cons.injEq, Prod.mk.injEq, Option.some.injEq, AV.lit.injEq, Value.bool.injEq, true_and, and_true] at h
          rw [h]) true (weak_forget ?_ (List.Sublist.refl _) (List.Sublist.refl _)) trivial ?_
        · simp only [go_sem, Nat.reduceAdd, Nat.reduceEqDiff, Nat.reduceLT, reduceIte, reduceCtorEq, Nat.reduceBEq, Int.reduceLT, Int.reduceToNat, Int.reducePow, Nat.reduceLeDiff, Int.reduceLE, Nat.reduceMul, Nat.reduceSub, slotsSub]
        · intro b _
          cases b with
          | true =>
            simp only [a32_L1, go_sem, Nat.reduceAdd, Nat.reduceEqDiff, Nat.reduceLT, reduceIte, reduceCtorEq, Nat.reduceBEq, Int.reduceLT, Int.reduceToNat, Int.reducePow, Nat.reduceLeDiff, Int.reduceLE, Nat.reduceMul, Nat.reduceSub]
            refine loop_to 0 (fun _ => ⟨[(3, some (.vx .wrap [.lit (.slice none 0 0)])), (5, some (.lit (.bool false))), (6, some (.lit (.int .i64 1)))], [], [], nx⟩) (fun _ => True) (weak_forget ?_ (List.Sublist.refl _) (List.Sublist.refl _)) trivial (fun i hi => by omega) ?_
            · simp only [go_sem, Nat.reduceAdd, Nat.reduceEqDiff, Nat.reduceLT, reduceIte, reduceCtorEq, Nat.reduceBEq, Int.reduceLT, Int.reduceToNat, Int.reducePow, Nat.reduceLeDiff, Int.reduceLE, Nat.reduceMul, Nat.reduceSub, slotsSub]
            · intro _
              simp only [e1, go_sem, Nat.reduceAdd, Nat.reduceEqDiff, Nat.reduceLT, reduceIte, reduceCtorEq, Nat.reduceBEq, Int.reduceLT, Int.reduceToNat, Int.reducePow, Nat.reduceLeDiff, Int.reduceLE, Nat.reduceMul, Nat.reduceSub]
              refine ⟨false, weak_forget ?_ (List.Sublist.refl _) (List.Sublist.refl _), by simp⟩
              simp only [go_sem, Nat.reduceAdd, Nat.reduceEqDiff, Nat.reduceLT, reduceIte, reduceCtorEq, Nat.reduceBEq, Int.reduceLT, Int.reduceToNat, Int.reducePow, Nat.reduceLeDiff, Int.reduceLE, Nat.reduceMul, Nat.reduceSub, slotsSub]
          | false =>
            simp only [a32_L1, go_sem, Nat.reduceAdd, Nat.reduceEqDiff, Nat.reduceLT, reduceIte, reduceCtorEq, Nat.reduceBEq, Int.reduceLT, Int.reduceToNat, Int.reducePow, Nat.reduceLeDiff, Int.reduceLE, Nat.reduceMul, Nat.reduceSub]
            exact ⟨_, (weak_unwrap 2 (by simp only [go_sem, Nat.reduceAdd, Nat.reduceEqDiff, Nat.reduceLT, reduceIte, reduceCtorEq, Nat.reduceBEq, Int.reduceLT, Int.reduceToNat, Int.reducePow, Nat.reduceLeDiff, Int.reduceLE, Nat.reduceMul, Nat.reduceSub]; rfl)).trans (weak_nil 2 21 (by simp only [go_sem, Nat.reduceAdd, Nat.reduceEqDiff, Nat.reduceLT, reduceIte, reduceCtorEq, Nat.reduceBEq, Int.reduceLT, Int.reduceToNat, Int.reducePow, Nat.reduceLeDiff, Int.reduceLE, Nat.reduceMul, Nat.reduceSub])), .inr rfl, nx, by simp only [resAV, resL, resOne, go_sem, Nat.reduceAdd, Nat.reduceEqDiff, Nat.reduceLT, reduceIte, reduceCtorEq, Nat.reduceBEq, Int.reduceLT, Int.reduceToNat, Int.reducePow, Nat.reduceLeDiff, Int.reduceLE, Nat.reduceMul, Nat.reduceSub]; rfl, by simp only [go_sem, Nat.reduceAdd, Nat.reduceEqDiff, Nat.reduceLT, reduceIte, reduceCtorEq, Nat.reduceBEq, Int.reduceLT, Int.reduceToNat, Int.reducePow, Nat.reduceLeDiff, Int.reduceLE, Nat.reduceMul, Nat.reduceSub, beq_self_eq_true]⟩
      · have hF : (flatP T l).length ≤ 10000 := by omega
        simp only [outV_ne hx, rowV_ne hx, go_sem, Nat.reduceAdd, Nat.reduceEqDiff, Nat.reduceLT, reduceIte, reduceCtorEq, Nat.reduceBEq, Int.reduceLT, Int.reduceToNat, Int.reducePow, Nat.reduceLeDiff, Int.reduceLE, Nat.reduceMul, Nat.reduceSub]
        refine refNFD_loop hF (flat_i32 h32) (hid hx) (weak_forget ?_ (List.Sublist.refl _) (List.Sublist.refl _)) fun sl h3 => ?_
        · simp only [go_sem, Nat.reduceAdd, Nat.reduceEqDiff, Nat.reduceLT, reduceIte, reduceCtorEq, Nat.reduceBEq, Int.reduceLT, Int.reduceToNat, Int.reducePow, Nat.reduceLeDiff, Int.reduceLE, Nat.reduceMul, Nat.reduceSub, slotsSub]
        · simp only [h3, go_sem, Nat.reduceAdd, Nat.reduceEqDiff, Nat.reduceLT, reduceIte, reduceCtorEq, Nat.reduceBEq, Int.reduceLT, Int.reduceToNat, Int.reducePow, Nat.reduceLeDiff, Int.reduceLE, Nat.reduceMul, Nat.reduceSub]
          exact ⟨_, weak_freeze 2 (els := runes (nfdP T cls l)) (rest := []) (by simp only [go_sem, Nat.reduceAdd, Nat.reduceEqDiff, Nat.reduceLT, reduceIte, reduceCtorEq, Nat.reduceBEq, Int.reduceLT, Int.reduceToNat, Int.reducePow, Nat.reduceLeDiff, Int.reduceLE, Nat.reduceMul, Nat.reduceSub]; rfl) (by simp only [cX_flat, unOb_cX, go_sem, Nat.reduceAdd, Nat.reduceEqDiff, Nat.reduceLT, reduceIte, reduceCtorEq, Nat.reduceBEq, Int.reduceLT, Int.reduceToNat, Int.reducePow, Nat.reduceLeDiff, Int.reduceLE, Nat.reduceMul, Nat.reduceSub]; rfl) (runes_length _) (lenAll_runes _) (oneV_runes _), .inr rfl, nx, by simp only [resAV, resL, resOne, go_sem, Nat.reduceAdd, Nat.reduceEqDiff, Nat.reduceLT, reduceIte, reduceCtorEq, Nat.reduceBEq, Int.reduceLT, Int.reduceToNat, Int.reducePow, Nat.reduceLeDiff, Int.reduceLE, Nat.reduceMul, Nat.reduceSub], by simp only [go_sem, Nat.reduceAdd, Nat.reduceEqDiff, Nat.reduceLT, reduceIte, reduceCtorEq, Nat.reduceBEq, Int.reduceLT, Int.reduceToNat, Int.reducePow, Nat.reduceLeDiff, Int.reduceLE, Nat.reduceMul, Nat.reduceSub, beq_self_eq_true]⟩
end Go.Proofs.Ytmhpjoadfgplgaa
