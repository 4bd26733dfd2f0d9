/-
Changing places in a part of a row, and turning two parts: sort.swapRange, sort.rotate. Conditions: none.
-/
import Derived.Test.YtmhpjoadfgplgaaNrmS
set_option linter.unusedSimpArgs false
set_option linter.unusedVariables false
set_option linter.unusedSectionVars false
namespace Go.Proofs.Ytmhpjoadfgplgaa
open Go Go.Ab
def a112 : ACode :=
  (.seq (.reg [⟨(.some 8), (.mv (.k (.int .i64 0))), .none⟩]) (.block 0 (.loop (.seq (.seq (.reg [⟨(.some 9), (.mv (.t 8)), .none⟩, ⟨(.some 10), (.mv (.t 3)), .none⟩, ⟨(.some 11), (.bin .lss (.t 9) (.t
  10)), .none⟩]) (.cond (.t 11) .skip (.exit 0))) (.seq (.block 1 (.reg [⟨(.some 14), (.mv (.t 0)), .none⟩, ⟨(.some 15), (.mv (.t 1)), .none⟩, ⟨(.some 16), (.mv (.t 8)), .none⟩, ⟨(.some 17), (.bin .add
  (.t 15) (.t 16)), .none⟩, ⟨(.some 18), (.mv (.t 2)), .none⟩, ⟨(.some 19), (.mv (.t 8)), .none⟩, ⟨(.some 20), (.bin .add (.t 18) (.t 19)), .none⟩, ⟨(.some 21), (.call (.k (.func (.method "Swap") #[]
  #[])) [(.t 14), (.t 17), (.t 20)]), .none⟩])) (.reg [⟨(.some 12), (.mv (.t 8)), .none⟩, ⟨(.some 13), (.bin .add (.t 12) (.k (.int .i64 1))), .none⟩, ⟨(.some 8), (.mv (.t 13)), .none⟩]))))))
theorem c112 : Try.f112.body.bind (cCode Try.prog 22) = some a112 := by kernel_rfl
theorem r112 : Try.f112.results.toList = [] := by kernel_rfl
theorem n112 : Try.f112.ntmps = 22 := by kernel_rfl
theorem e112 : Enters Try.prog 112 := enters_of Try.func112 (by kernel_rfl) (by kernel_rfl)
def a111 : ACode :=
  (.seq (.reg [⟨(.some 10), (.mv (.t 2)), .none⟩, ⟨(.some 11), (.mv (.t 1)), .none⟩, ⟨(.some 12), (.bin .sub (.t 10) (.t 11)), .none⟩, ⟨(.some 8), (.mv (.t 12)), .none⟩]) (.seq (.reg [⟨(.some 13), (.mv
  (.t 3)), .none⟩, ⟨(.some 14), (.mv (.t 2)), .none⟩, ⟨(.some 15), (.bin .sub (.t 13) (.t 14)), .none⟩, ⟨(.some 9), (.mv (.t 15)), .none⟩]) (.seq (.block 0 (.loop (.seq (.seq (.reg [⟨(.some 16), (.mv
  (.t 8)), .none⟩, ⟨(.some 17), (.mv (.t 9)), .none⟩, ⟨(.some 18), (.bin .neq (.t 16) (.t 17)), .none⟩]) (.cond (.t 18) .skip (.exit 0))) (.block 1 (.seq (.reg [⟨(.some 19), (.mv (.t 8)), .none⟩,
  ⟨(.some 20), (.mv (.t 9)), .none⟩, ⟨(.some 21), (.bin .gtr (.t 19) (.t 20)), .none⟩]) (.cond (.t 21) (.seq (.reg [⟨(.some 22), (.mv (.t 0)), .none⟩, ⟨(.some 23), (.mv (.t 2)), .none⟩, ⟨(.some 24),
  (.mv (.t 8)), .none⟩, ⟨(.some 25), (.bin .sub (.t 23) (.t 24)), .none⟩, ⟨(.some 26), (.mv (.t 2)), .none⟩, ⟨(.some 27), (.mv (.t 9)), .none⟩, ⟨(.some 28), (.call (.f 112) [(.t 22), (.t 25), (.t 26),
  (.t 27)]), .none⟩]) (.reg [⟨(.some 29), (.mv (.t 8)), .none⟩, ⟨(.some 30), (.mv (.t 9)), .none⟩, ⟨(.some 31), (.bin .sub (.t 29) (.t 30)), .none⟩, ⟨(.some 8), (.mv (.t 31)), .none⟩])) (.seq (.reg
  [⟨(.some 32), (.mv (.t 0)), .none⟩, ⟨(.some 33), (.mv (.t 2)), .none⟩, ⟨(.some 34), (.mv (.t 8)), .none⟩, ⟨(.some 35), (.bin .sub (.t 33) (.t 34)), .none⟩, ⟨(.some 36), (.mv (.t 2)), .none⟩, ⟨(.some
  37), (.mv (.t 9)), .none⟩, ⟨(.some 38), (.bin .add (.t 36) (.t 37)), .none⟩, ⟨(.some 39), (.mv (.t 8)), .none⟩, ⟨(.some 40), (.bin .sub (.t 38) (.t 39)), .none⟩, ⟨(.some 41), (.mv (.t 8)), .none⟩,
  ⟨(.some 42), (.call (.f 112) [(.t 32), (.t 35), (.t 40), (.t 41)]), .none⟩]) (.reg [⟨(.some 43), (.mv (.t 9)), .none⟩, ⟨(.some 44), (.mv (.t 8)), .none⟩, ⟨(.some 45), (.bin .sub (.t 43) (.t 44)),
  .none⟩, ⟨(.some 9), (.mv (.t 45)), .none⟩])))))))) (.reg [⟨(.some 46), (.mv (.t 0)), .none⟩, ⟨(.some 47), (.mv (.t 2)), .none⟩, ⟨(.some 48), (.mv (.t 8)), .none⟩, ⟨(.some 49), (.bin .sub (.t 47) (.t
  48)), .none⟩, ⟨(.some 50), (.mv (.t 2)), .none⟩, ⟨(.some 51), (.mv (.t 8)), .none⟩, ⟨(.some 52), (.call (.f 112) [(.t 46), (.t 49), (.t 50), (.t 51)]), .none⟩]))))
theorem c111 : Try.f111.body.bind (cCode Try.prog 53) = some a111 := by kernel_rfl
theorem r111 : Try.f111.results.toList = [] := by kernel_rfl
theorem n111 : Try.f111.ntmps = 53 := by kernel_rfl
theorem e111 : Enters Try.prog 111 := enters_of Try.func111 (by kernel_rfl) (by kernel_rfl)

/-- A part of a row, with what stands beside it. -/
def St (X Y L : List Int) : List (Nat × List AV) := two2 (X ++ L ++ Y)
/-- What is sorted. -/
def ifc (X : List Int) (n : Nat) : AV := .vx (.iface 122) [mrk X.length n]
def nI (n : Nat) : AV := .lit (.int .i64 (n : Int))

theorem mid_get (X L Y : List Int) (i : Nat) (h : i < L.length) : (X ++ L ++ Y)[X.length + i]'(by simp; omega) = L[i] := by
  rw [List.getElem_append_left (by simp; omega), List.getElem_append_right (by omega)]
  simp
theorem mid_set (X L Y : List Int) (i : Nat) (v : Int) (h : i < L.length) : (X ++ L ++ Y).set (X.length + i) v = X ++ L.set i v ++ Y := by
  rw [List.set_append_left _ _ (by simp; omega), List.set_append_right _ _ (by omega)]
  simp
theorem mid_getD (X L Y : List Int) (i : Nat) (h : i < L.length) : (X ++ L ++ Y).getD (X.length + i) 0 = L.getD i 0 := by
  rw [List.getD_eq_getElem?_getD, List.getD_eq_getElem?_getD, List.getElem?_eq_getElem (by simp; omega), mid_get X L Y i h, List.getElem?_eq_getElem h]
theorem mid_swp (X L Y : List Int) (i j : Nat) (hi : i < L.length) (hj : j < L.length) : swp (X ++ L ++ Y) (X.length + i) (X.length + j) = X ++ swp L i j ++ Y := by
  unfold swp
  rw [mid_getD X L Y i hi, mid_getD X L Y j hj, mid_set X L Y i _ hi, mid_set X (L.set i _) Y j _ (by simpa using hj)]
theorem swp_at (P M Q : List Int) (x y : Int) : swp (P ++ x :: M ++ y :: Q) P.length (P.length + 1 + M.length) = P ++ y :: M ++ x :: Q := by
  unfold swp
  have h1 : (P ++ x :: M ++ y :: Q).getD P.length 0 = x := by simp
  have h2 : (P ++ x :: M ++ y :: Q).getD (P.length + 1 + M.length) 0 = y := by
    rw [show P.length + 1 + M.length = (P ++ x :: M).length by simp; omega]
    simp
  rw [h1, h2]
  rw [show P ++ x :: M ++ y :: Q = P ++ x :: (M ++ y :: Q) by simp, List.set_append_right _ _ (Nat.le_refl _), Nat.sub_self, List.set_cons_zero]
  rw [show P ++ y :: (M ++ y :: Q) = (P ++ y :: M) ++ y :: Q by simp, show P.length + 1 + M.length = (P ++ y :: M).length by simp; omega, List.set_append_right _ _ (Nat.le_refl _), Nat.sub_self, List.set_cons_zero]
theorem swp_comm (l : List Int) {i j : Nat} (hi : i < l.length) (hj : j < l.length) : swp l i j = swp l j i := by
  unfold swp
  by_cases h : i = j
  · subst h; rfl
  · rw [List.set_comm _ _ h]
theorem swp_next (P Q : List Int) (x y : Int) : swp (P ++ x :: y :: Q) P.length (P.length + 1) = P ++ y :: x :: Q := by
  have := swp_at P [] Q x y
  simpa using this

section
variable {X Y L : List Int} {n nx : Nat} {sl : List (Nat × Option AV)} {d : Option Nat} {K : State → Prop}

/-- Asking which is less. -/
theorem less_go (i j : Nat) (hL : L.length = n) (hi : i < n) (hj : j < n) (hnx : 2 ≤ nx)
    (hK : ∀ nx', 2 ≤ nx' → K (State.put ⟨sl, St X Y L, [], nx'⟩ d (.lit (.bool (decide (cls (L[i]'(by omega)) < cls (L[j]'(by omega)))))))) :
    callGo Try.prog (some (.lit (.func (.method "Less") #[] #[]))) (some [ifc X n, .lit (.int .i64 (i : Int)), .lit (.int .i64 (j : Int))]) d ⟨sl, St X Y L, [], nx⟩ K := by
  refine callGo_method is_less (less_ok X.length n (X ++ L ++ Y) i j hi hj (by simp; omega) hnx fun nx' h => ?_)
  have h1 := mid_get X L Y i (by omega)
  have h2 := mid_get X L Y j (by omega)
  rw [h1, h2]
  exact hK nx' h
/-- Changing places. -/
theorem swap_go (i j : Nat) (hL : L.length = n) (hi : i < n) (hj : j < n) (hnx : 2 ≤ nx)
    (hK : ∀ r nx', 2 ≤ nx' → K (State.put ⟨sl, St X Y (swp L i j), [], nx'⟩ d r)) :
    callGo Try.prog (some (.lit (.func (.method "Swap") #[] #[]))) (some [ifc X n, .lit (.int .i64 (i : Int)), .lit (.int .i64 (j : Int))]) d ⟨sl, St X Y L, [], nx⟩ K := by
  refine callGo_method is_swap (swap_ok X.length n (X ++ L ++ Y) i j hi hj (by simp; omega) hnx fun r nx' h => ?_)
  rw [mid_swp X L Y i j (by omega) (by omega)]
  exact hK r nx' h
end

set_option maxRecDepth 10000 in
theorem swapRange_ok (X Y P A M B Q : List Int) {n a b m nx : Nat} (hL : (P ++ A ++ M ++ B ++ Q).length = n) (ha : P.length = a) (hA : A.length = m) (hB : B.length = m) (hb : a + m + M.length = b) (hn : n ≤ 1099511627776) (hnx : 2 ≤ nx)
    {K : AV → List (Nat × List AV) → List (Nat × TypeId) → Nat → Prop} (hK : ∀ r nx', 2 ≤ nx' → K r (St X Y (P ++ B ++ M ++ A ++ Q)) [] nx') :
    CallOK Try.prog 112 [ifc X n, .lit (.int .i64 (a : Int)), .lit (.int .i64 (b : Int)), .lit (.int .i64 (m : Int))] (St X Y (P ++ A ++ M ++ B ++ Q)) [] nx K := by
  refine callOK_walk Try.func112 c112 n112 e112 r112 (by simp) ?_
  simp only [a112, astart, argSlots, go_sem, Nat.reduceAdd, Nat.reduceEqDiff, Nat.reduceLT, reduceIte, reduceCtorEq, Nat.reduceBEq, Int.reduceLT, Int.reduceToNat, Int.reducePow, Nat.reduceLeDiff, Int.reduceLE, Nat.reduceMul, Nat.reduceSub]
  simp only [List.length_append] at hL
  refine loop_by (α := Nat × Nat) (fun x => ⟨[(0, some (ifc X n)), (1, some (.lit (.int .i64 (a : Int)))), (2, some (.lit (.int .i64 (b : Int)))), (3, some (.lit (.int .i64 (m : Int)))), (8, some (.lit (.int .i64 ((x.1 : Nat) : Int))))], St X Y (P ++ B.take x.1 ++ A.drop x.1 ++ M ++ A.take x.1 ++ B.drop x.1 ++ Q), [], x.2⟩)
    (fun x => x.1 ≤ m ∧ 2 ≤ x.2) (fun x => m - x.1) (fun x y h => by
      have := congrArg (cnt 8) h
      simp [cnt, Ab.look] at this
      rw [this]) (0, nx) ?_ ⟨by omega, hnx⟩ ?_
  · simp only [List.take_zero, List.drop_zero, List.append_nil, Int.natCast_zero]
    refine weak_forget ?_ (List.Sublist.refl _) (List.Sublist.refl _)
    simp only [go_sem, Nat.reduceAdd, Nat.reduceEqDiff, Nat.reduceLT, reduceIte, reduceCtorEq, Nat.reduceBEq, Int.reduceLT, Int.reduceToNat, Int.reducePow, Nat.reduceLeDiff, Int.reduceLE, Nat.reduceMul, Nat.reduceSub, slotsSub]
  · rintro ⟨i, nx1⟩ ⟨hi, hx⟩
    simp only at hi hx
    simp only [go_sem, Nat.reduceAdd, Nat.reduceEqDiff, Nat.reduceLT, reduceIte, reduceCtorEq, Nat.reduceBEq, Int.reduceLT, Int.reduceToNat, Int.reducePow, Nat.reduceLeDiff, Int.reduceLE, Nat.reduceMul, Nat.reduceSub]
    rcases Nat.lt_or_eq_of_le hi with hlt | heq
    · have h1 : IntKind.i64.wrap ((i : Int) + 1) = ((i + 1 : Nat) : Int) := by rw [wrap_i64 _ (by omega) (by omega)]; omega
      have h2 : IntKind.i64.wrap ((a : Int) + (i : Int)) = ((a + i : Nat) : Int) := by rw [wrap_i64 _ (by omega) (by omega)]; omega
      have h3 : IntKind.i64.wrap ((b : Int) + (i : Int)) = ((b + i : Nat) : Int) := by rw [wrap_i64 _ (by omega) (by omega)]; omega
      simp only [dec_lt hlt, h2, h3, go_sem, Nat.reduceAdd, Nat.reduceEqDiff, Nat.reduceLT, reduceIte, reduceCtorEq, Nat.reduceBEq, Int.reduceLT, Int.reduceToNat, Int.reducePow, Nat.reduceLeDiff, Int.reduceLE, Nat.reduceMul, Nat.reduceSub]
      refine swap_go _ _ (by simp; omega) (by omega) (by omega) hx fun r nx2 hx2 => ?_
      have hs : swp (P ++ B.take i ++ A.drop i ++ M ++ A.take i ++ B.drop i ++ Q) (a + i) (b + i) = P ++ B.take (i + 1) ++ A.drop (i + 1) ++ M ++ A.take (i + 1) ++ B.drop (i + 1) ++ Q := by
        have := swp_at (P ++ B.take i) (A.drop (i + 1) ++ M ++ A.take i) (B.drop (i + 1) ++ Q) (A[i]'(by omega)) (B[i]'(by omega))
        rw [show (P ++ B.take i).length = a + i by simp; omega, show a + i + 1 + (A.drop (i + 1) ++ M ++ A.take i).length = b + i by simp; omega] at this
        rw [List.take_succ_eq_append_getElem (l := A) (by omega), List.take_succ_eq_append_getElem (l := B) (by omega), List.drop_eq_getElem_cons (l := A) (i := i) (by omega), List.drop_eq_getElem_cons (l := B) (i := i) (by omega)]
        simp only [List.append_assoc, List.cons_append, List.nil_append] at this ⊢
        exact this
      rw [hs]
      simp only [h1, go_sem, Nat.reduceAdd, Nat.reduceEqDiff, Nat.reduceLT, reduceIte, reduceCtorEq, Nat.reduceBEq, Int.reduceLT, Int.reduceToNat, Int.reducePow, Nat.reduceLeDiff, Int.reduceLE, Nat.reduceMul, Nat.reduceSub]
      refine ⟨(i + 1, nx2), weak_forget ?_ (List.Sublist.refl _) (List.Sublist.refl _), ⟨by omega, hx2⟩, by simp only; omega⟩
      simp only [go_sem, Nat.reduceAdd, Nat.reduceEqDiff, Nat.reduceLT, reduceIte, reduceCtorEq, Nat.reduceBEq, Int.reduceLT, Int.reduceToNat, Int.reducePow, Nat.reduceLeDiff, Int.reduceLE, Nat.reduceMul, Nat.reduceSub, slotsSub]
    · subst heq
      have hA' : A.take i = A := List.take_of_length_le (by omega)
      have hB' : B.take i = B := List.take_of_length_le (by omega)
      have hA2 : A.drop i = [] := List.drop_eq_nil_of_le (by omega)
      have hB2 : B.drop i = [] := List.drop_eq_nil_of_le (by omega)
      simp only [dec_irr, hA', hB', hA2, hB2, List.append_nil, go_sem, Nat.reduceAdd, Nat.reduceEqDiff, Nat.reduceLT, reduceIte, reduceCtorEq, Nat.reduceBEq, Int.reduceLT, Int.reduceToNat, Int.reducePow, Nat.reduceLeDiff, Int.reduceLE, Nat.reduceMul, Nat.reduceSub]
      exact ⟨.inl trivial, _, rfl, hK _ _ hx⟩

set_option maxRecDepth 10000 in
theorem rotate_ok (X Y P U V Q : List Int) {n a m b nx : Nat} (hL : (P ++ U ++ V ++ Q).length = n) (ha : P.length = a) (hU : a + U.length = m) (hV : m + V.length = b) (hu : 1 ≤ U.length) (hv : 1 ≤ V.length) (hn : n ≤ 1099511627776) (hnx : 2 ≤ nx)
    {K : AV → List (Nat × List AV) → List (Nat × TypeId) → Nat → Prop} (hK : ∀ r nx', 2 ≤ nx' → K r (St X Y (P ++ V ++ U ++ Q)) [] nx') :
    CallOK Try.prog 111 [ifc X n, .lit (.int .i64 (a : Int)), .lit (.int .i64 (m : Int)), .lit (.int .i64 (b : Int))] (St X Y (P ++ U ++ V ++ Q)) [] nx K := by
  refine callOK_walk Try.func111 c111 n111 e111 r111 (by simp) ?_
  simp only [List.length_append] at hL
  have hi0 : IntKind.i64.wrap ((m : Int) - (a : Int)) = ((U.length : Nat) : Int) := by rw [wrap_i64 _ (by omega) (by omega)]; omega
  have hj0 : IntKind.i64.wrap ((b : Int) - (m : Int)) = ((V.length : Nat) : Int) := by rw [wrap_i64 _ (by omega) (by omega)]; omega
  simp only [a111, astart, argSlots, hi0, hj0, go_sem, Nat.reduceAdd, Nat.reduceEqDiff, Nat.reduceLT, reduceIte, reduceCtorEq, Nat.reduceBEq, Int.reduceLT, Int.reduceToNat, Int.reducePow, Nat.reduceLeDiff, Int.reduceLE, Nat.reduceMul, Nat.reduceSub]
  refine loop_by (α := Nat × Nat × List Int × Nat) (fun x => ⟨[(0, some (ifc X n)), (2, some (.lit (.int .i64 (m : Int)))), (8, some (.lit (.int .i64 ((x.1 : Nat) : Int)))), (9, some (.lit (.int .i64 ((x.2.1 : Nat) : Int))))], St X Y x.2.2.1, [], x.2.2.2⟩)
    (fun x => 2 ≤ x.2.2.2 ∧ ∃ P' U' V' Q', x.2.2.1 = P' ++ U' ++ V' ++ Q' ∧ U'.length = x.1 ∧ V'.length = x.2.1 ∧ 1 ≤ x.1 ∧ 1 ≤ x.2.1 ∧ P'.length + x.1 = m ∧ m + x.2.1 + Q'.length = n ∧ P' ++ V' ++ U' ++ Q' = P ++ V ++ U ++ Q) (fun x => x.1 + x.2.1) (fun x y h => by
      have h1 := congrArg (cnt 8) h
      have h2 := congrArg (cnt 9) h
      simp [cnt, Ab.look] at h1 h2
      rw [h1, h2]) (U.length, V.length, P ++ U ++ V ++ Q, nx) (weak_forget ?_ (List.Sublist.refl _) (List.Sublist.refl _)) ⟨hnx, P, U, V, Q, rfl, rfl, rfl, hu, hv, by simp only; omega, by simp only; omega, rfl⟩ ?_
  · simp only [go_sem, Nat.reduceAdd, Nat.reduceEqDiff, Nat.reduceLT, reduceIte, reduceCtorEq, Nat.reduceBEq, Int.reduceLT, Int.reduceToNat, Int.reducePow, Nat.reduceLeDiff, Int.reduceLE, Nat.reduceMul, Nat.reduceSub, slotsSub]
  · rintro ⟨i, j, L, nx1⟩ ⟨hx, P', U', V', Q', rfl, rfl, rfl, h1, h2, h3, h4, h5⟩
    simp only at hx h1 h2 h3 h4
    have w1 : IntKind.i64.wrap ((m : Int) - (U'.length : Int)) = ((P'.length : Nat) : Int) := by rw [wrap_i64 _ (by omega) (by omega)]; omega
    simp only [go_sem, Nat.reduceAdd, Nat.reduceEqDiff, Nat.reduceLT, reduceIte, reduceCtorEq, Nat.reduceBEq, Int.reduceLT, Int.reduceToNat, Int.reducePow, Nat.reduceLeDiff, Int.reduceLE, Nat.reduceMul, Nat.reduceSub]
    by_cases he : U'.length = V'.length
    · have e1 : ((U'.length : Int) != (V'.length : Int)) = false := by rw [he]; simp
      simp only [e1, w1, go_sem, Nat.reduceAdd, Nat.reduceEqDiff, Nat.reduceLT, reduceIte, reduceCtorEq, Nat.reduceBEq, Int.reduceLT, Int.reduceToNat, Int.reducePow, Nat.reduceLeDiff, Int.reduceLE, Nat.reduceMul, Nat.reduceSub]
      rw [show P' ++ U' ++ V' ++ Q' = P' ++ U' ++ [] ++ V' ++ Q' by simp]
      refine callGo_ok (swapRange_ok X Y P' U' [] V' Q' (by simp; omega) rfl rfl he.symm (by simp; omega) hn hx fun r nx2 hx2 => ?_)
      rw [show P' ++ V' ++ [] ++ U' ++ Q' = P ++ V ++ U ++ Q by rw [← h5]; simp]
      simp only [go_sem, Nat.reduceAdd, Nat.reduceEqDiff, Nat.reduceLT, reduceIte, reduceCtorEq, Nat.reduceBEq, Int.reduceLT, Int.reduceToNat, Int.reducePow, Nat.reduceLeDiff, Int.reduceLE, Nat.reduceMul, Nat.reduceSub]
      exact ⟨.inl trivial, _, rfl, hK _ _ hx2⟩
    · have e1 : ((U'.length : Int) != (V'.length : Int)) = true := by simp; omega
      by_cases hg : V'.length < U'.length
      · have e2 : decide ((U'.length : Int) > (V'.length : Int)) = true := by simp only [decide_eq_true_eq]; omega
        have w2 : IntKind.i64.wrap ((U'.length : Int) - (V'.length : Int)) = ((U'.length - V'.length : Nat) : Int) := by rw [wrap_i64 _ (by omega) (by omega)]; omega
        simp only [e1, e2, w1, go_sem, Nat.reduceAdd, Nat.reduceEqDiff, Nat.reduceLT, reduceIte, reduceCtorEq, Nat.reduceBEq, Int.reduceLT, Int.reduceToNat, Int.reducePow, Nat.reduceLeDiff, Int.reduceLE, Nat.reduceMul, Nat.reduceSub]
        have hU : U' = U'.take V'.length ++ U'.drop V'.length := (List.take_append_drop _ _).symm
        rw [show P' ++ U' ++ V' ++ Q' = P' ++ U'.take V'.length ++ U'.drop V'.length ++ V' ++ Q' by rw [List.append_assoc P' (U'.take _), List.take_append_drop]]
        refine callGo_ok (swapRange_ok X Y P' (U'.take V'.length) (U'.drop V'.length) V' Q' (by simp; omega) rfl (by simp; omega) rfl (by simp; omega) hn hx fun r nx2 hx2 => ?_)
        simp only [w2, go_sem, Nat.reduceAdd, Nat.reduceEqDiff, Nat.reduceLT, reduceIte, reduceCtorEq, Nat.reduceBEq, Int.reduceLT, Int.reduceToNat, Int.reducePow, Nat.reduceLeDiff, Int.reduceLE, Nat.reduceMul, Nat.reduceSub]
        refine ⟨(U'.length - V'.length, V'.length, P' ++ V' ++ U'.drop V'.length ++ U'.take V'.length ++ Q', nx2), weak_forget ?_ (List.Sublist.refl _) (List.Sublist.refl _), ⟨hx2, P' ++ V', U'.drop V'.length, U'.take V'.length, Q', rfl, by simp, by simp; omega, by simp only; omega, h2, by simp; omega, by simp only; omega, ?_⟩, by simp only; omega⟩
        · simp only [go_sem, Nat.reduceAdd, Nat.reduceEqDiff, Nat.reduceLT, reduceIte, reduceCtorEq, Nat.reduceBEq, Int.reduceLT, Int.reduceToNat, Int.reducePow, Nat.reduceLeDiff, Int.reduceLE, Nat.reduceMul, Nat.reduceSub, slotsSub]
        · rw [← h5]
          conv => rhs; rw [hU]
          simp
      · have e2 : decide ((U'.length : Int) > (V'.length : Int)) = false := by simp only [decide_eq_false_iff_not]; omega
        have w2 : IntKind.i64.wrap ((V'.length : Int) - (U'.length : Int)) = ((V'.length - U'.length : Nat) : Int) := by rw [wrap_i64 _ (by omega) (by omega)]; omega
        have w3 : IntKind.i64.wrap ((m : Int) + (V'.length : Int)) = ((m + V'.length : Nat) : Int) := by rw [wrap_i64 _ (by omega) (by omega)]; omega
        have w4 : IntKind.i64.wrap (((m + V'.length : Nat) : Int) - (U'.length : Int)) = ((m + V'.length - U'.length : Nat) : Int) := by rw [wrap_i64 _ (by omega) (by omega)]; omega
        simp only [e1, e2, w1, w3, w4, go_sem, Nat.reduceAdd, Nat.reduceEqDiff, Nat.reduceLT, reduceIte, reduceCtorEq, Nat.reduceBEq, Int.reduceLT, Int.reduceToNat, Int.reducePow, Nat.reduceLeDiff, Int.reduceLE, Nat.reduceMul, Nat.reduceSub]
        have hV : V' = V'.take (V'.length - U'.length) ++ V'.drop (V'.length - U'.length) := (List.take_append_drop _ _).symm
        rw [show P' ++ U' ++ V' ++ Q' = P' ++ U' ++ V'.take (V'.length - U'.length) ++ V'.drop (V'.length - U'.length) ++ Q' by rw [List.append_assoc (P' ++ U') (V'.take _), List.take_append_drop]]
        refine callGo_ok (swapRange_ok X Y P' U' (V'.take (V'.length - U'.length)) (V'.drop (V'.length - U'.length)) Q' (by simp; omega) rfl rfl (by simp; omega) (by simp; omega) hn hx fun r nx2 hx2 => ?_)
        simp only [w2, go_sem, Nat.reduceAdd, Nat.reduceEqDiff, Nat.reduceLT, reduceIte, reduceCtorEq, Nat.reduceBEq, Int.reduceLT, Int.reduceToNat, Int.reducePow, Nat.reduceLeDiff, Int.reduceLE, Nat.reduceMul, Nat.reduceSub]
        refine ⟨(U'.length, V'.length - U'.length, P' ++ V'.drop (V'.length - U'.length) ++ V'.take (V'.length - U'.length) ++ U' ++ Q', nx2), weak_forget ?_ (List.Sublist.refl _) (List.Sublist.refl _), ⟨hx2, P', V'.drop (V'.length - U'.length), V'.take (V'.length - U'.length), U' ++ Q', by simp, by simp; omega, by simp, h1, by simp only; omega, h3, by simp; omega, ?_⟩, by simp only; omega⟩
        · simp only [go_sem, Nat.reduceAdd, Nat.reduceEqDiff, Nat.reduceLT, reduceIte, reduceCtorEq, Nat.reduceBEq, Int.reduceLT, Int.reduceToNat, Int.reducePow, Nat.reduceLeDiff, Int.reduceLE, Nat.reduceMul, Nat.reduceSub, slotsSub]
        · rw [← h5]
          conv => rhs; rw [hV]
          simp
end Go.Proofs.Ytmhpjoadfgplgaa
