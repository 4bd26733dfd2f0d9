/-
Rows of marks as something to be sorted: its length, what is less, and what changes places. Conditions: none.
-/
import Derived.Test.YtmhpjoadfgplgaaNrmM
import Derived.Test.YtmhpjoadfgplgaaUcd4
set_option linter.unusedSimpArgs false
set_option linter.unusedVariables false
set_option linter.unusedSectionVars false
namespace Go.Proofs.Ytmhpjoadfgplgaa
open Go Go.Ab
def a130 : ACode :=
  (.seq (.reg [⟨(.some 1), (.box 122 (.t 0)), .none⟩, ⟨(.some 2), (.mv (.k (.int .i64 0))), .none⟩]) (.seq (.reg [⟨(.some 3), (.fa 0 (.t 1)), .none⟩, ⟨(.some 4), (.ld .none (.t 3)), .none⟩, ⟨(.some 5),
  (.len (.t 4)), .none⟩, ⟨(.some 2), (.mv (.t 5)), .none⟩]) .ret))
theorem c130 : Try.f130.body.bind (cCode Try.prog 6) = some a130 := by kernel_rfl
theorem r130 : Try.f130.results.toList = [(.tmp 2)] := by kernel_rfl
theorem n130 : Try.f130.ntmps = 6 := by kernel_rfl
theorem e130 : Enters Try.prog 130 := enters_of Try.func130 (by kernel_rfl) (by kernel_rfl)
def a131 : ACode :=
  (.seq (.reg [⟨(.some 3), (.box 122 (.t 0)), .none⟩, ⟨(.some 6), (.mv (.k (.bool false))), .none⟩]) (.seq (.dreg [⟨(.some 7), (.fa 1 (.t 3)), .none⟩, ⟨(.some 8), (.ld .none (.t 7)), .none⟩, ⟨(.some 9),
  (.mv (.t 1)), .none⟩, ⟨(.some 10), (.ia 3 (.t 8) (.t 9)), .none⟩, ⟨(.some 11), (.ld .none (.t 10)), .none⟩, ⟨(.some 12), (.fa 1 (.t 3)), .none⟩, ⟨(.some 13), (.ld .none (.t 12)), .none⟩, ⟨(.some 14),
  (.mv (.t 2)), .none⟩, ⟨(.some 15), (.ia 3 (.t 13) (.t 14)), .none⟩, ⟨(.some 16), (.ld .none (.t 15)), .none⟩, ⟨(.some 17), (.bin .lss (.t 11) (.t 16)), .none⟩, ⟨(.some 6), (.mv (.t 17)), .none⟩])
  .ret))
theorem c131 : Try.f131.body.bind (cCode Try.prog 18) = some a131 := by kernel_rfl
theorem r131 : Try.f131.results.toList = [(.tmp 6)] := by kernel_rfl
theorem n131 : Try.f131.ntmps = 18 := by kernel_rfl
theorem e131 : Enters Try.prog 131 := enters_of Try.func131 (by kernel_rfl) (by kernel_rfl)
def a132 : ACode :=
  (.seq (.reg [⟨(.some 3), (.box 122 (.t 0)), .none⟩]) (.seq (.dtr (.one ⟨(.some 6), (.fa 0 (.t 3)), .none⟩ (.one ⟨(.some 7), (.ld .none (.t 6)), .none⟩ (.one ⟨(.some 8), (.mv (.t 1)), .none⟩ (.one
  ⟨(.some 9), (.fa 0 (.t 3)), .none⟩ (.one ⟨(.some 11), (.mv (.t 2)), .none⟩ (.one ⟨(.some 12), (.fa 0 (.t 3)), .none⟩ (.one ⟨(.some 13), (.ld .none (.t 12)), .none⟩ (.one ⟨(.some 14), (.mv (.t 2)),
  .none⟩ (.one ⟨(.some 15), (.ia 21 (.t 13) (.t 14)), .none⟩ (.one ⟨(.some 16), (.ld .none (.t 15)), .none⟩ (.one ⟨(.some 17), (.fa 0 (.t 3)), .none⟩ (.one ⟨(.some 18), (.ld .none (.t 17)), .none⟩ (.one
  ⟨(.some 19), (.mv (.t 1)), .none⟩ (.one ⟨(.some 20), (.ia 21 (.t 18) (.t 19)), .none⟩ (.one ⟨(.some 21), (.ld .none (.t 20)), .none⟩ (.one ⟨(.some 22), (.ia 21 (.t 7) (.t 8)), .none⟩ (.both (.one
  ⟨(.some 10), (.ld .none (.t 9)), .none⟩ (.one ⟨.none, (.st 1 (.t 22) (.t 16)), .none⟩ (.one ⟨(.some 23), (.ia 21 (.t 10) (.t 11)), .none⟩ (.one ⟨.none, (.st 1 (.t 23) (.t 21)), .none⟩ .leaf)))) (.both
  (.one ⟨.none, (.st 1 (.t 22) (.t 16)), .none⟩ (.one ⟨(.some 10), (.ld .none (.t 9)), .none⟩ (.one ⟨(.some 23), (.ia 21 (.t 10) (.t 11)), .none⟩ (.one ⟨.none, (.st 1 (.t 23) (.t 21)), .none⟩ .leaf))))
  .top))))))))))))))))))) (.dtr (.one ⟨(.some 24), (.fa 1 (.t 3)), .none⟩ (.one ⟨(.some 25), (.ld .none (.t 24)), .none⟩ (.one ⟨(.some 26), (.mv (.t 1)), .none⟩ (.one ⟨(.some 27), (.fa 1 (.t 3)), .none⟩
  (.one ⟨(.some 29), (.mv (.t 2)), .none⟩ (.one ⟨(.some 30), (.fa 1 (.t 3)), .none⟩ (.one ⟨(.some 31), (.ld .none (.t 30)), .none⟩ (.one ⟨(.some 32), (.mv (.t 2)), .none⟩ (.one ⟨(.some 33), (.ia 3 (.t
  31) (.t 32)), .none⟩ (.one ⟨(.some 34), (.ld .none (.t 33)), .none⟩ (.one ⟨(.some 35), (.fa 1 (.t 3)), .none⟩ (.one ⟨(.some 36), (.ld .none (.t 35)), .none⟩ (.one ⟨(.some 37), (.mv (.t 1)), .none⟩
  (.one ⟨(.some 38), (.ia 3 (.t 36) (.t 37)), .none⟩ (.one ⟨(.some 39), (.ld .none (.t 38)), .none⟩ (.one ⟨(.some 40), (.ia 3 (.t 25) (.t 26)), .none⟩ (.both (.one ⟨(.some 28), (.ld .none (.t 27)),
  .none⟩ (.one ⟨.none, (.st 1 (.t 40) (.t 34)), .none⟩ (.one ⟨(.some 41), (.ia 3 (.t 28) (.t 29)), .none⟩ (.one ⟨.none, (.st 1 (.t 41) (.t 39)), .none⟩ .leaf)))) (.both (.one ⟨.none, (.st 1 (.t 40) (.t
  34)), .none⟩ (.one ⟨(.some 28), (.ld .none (.t 27)), .none⟩ (.one ⟨(.some 41), (.ia 3 (.t 28) (.t 29)), .none⟩ (.one ⟨.none, (.st 1 (.t 41) (.t 39)), .none⟩ .leaf)))) .top)))))))))))))))))))))
theorem c132 : Try.f132.body.bind (cCode Try.prog 42) = some a132 := by kernel_rfl
theorem r132 : Try.f132.results.toList = [] := by kernel_rfl
theorem n132 : Try.f132.ntmps = 42 := by kernel_rfl
theorem e132 : Enters Try.prog 132 := enters_of Try.func132 (by kernel_rfl) (by kernel_rfl)

theorem is_len : MethodIs Try.prog 122 "Len" 130 := by intro v w; kernel_rfl
theorem is_less : MethodIs Try.prog 122 "Less" 131 := by intro v w; kernel_rfl
theorem is_swap : MethodIs Try.prog 122 "Swap" 132 := by intro v w; kernel_rfl

/-- A code point's class. -/
def cls (x : Int) : Nat := (rowAt x).ccc.toNat
def cX (xs : List Int) : List AV := xs.map fun n => .lit (.int .i32 n)
def cK (xs : List Int) : List AV := xs.map fun n => .lit (.int .i64 (cls n : Int))
/-- Two rows that may be written: code points, and their classes. -/
def two2 (xs : List Int) : List (Nat × List AV) := [(0, cX xs), (1, cK xs)]
/-- A part of both. -/
def mrk (off n : Nat) : AV := .ag [.rf (.row 21 1 off n) 0, .rf (.row 3 1 off n) 1]

section
variable {P : Program} {g : FuncId} {id : Nat} {args : List AV} {bx bx1 : List (Nat × List AV)} {tp tp1 : List (Nat × TypeId)} {nx : Nat} {K : AV → List (Nat × List AV) → List (Nat × TypeId) → Nat → Prop}
/-- What is not used may be forgotten, ahead of a call. -/
theorem CallOK.forget (hb : bx1.Sublist bx) (ht : tp1.Sublist tp) (h : CallOK P g args bx1 tp1 nx K) : CallOK P g args bx tp nx K :=
  ⟨h.1, fun c w vs hm hn hr => h.2 c w vs (hm.forget hb ht) hn hr⟩
/-- And behind it. -/
theorem CallOK.post (h : CallOK P g args bx tp nx fun r b t n => ∃ b1 t1, b1.Sublist b ∧ t1.Sublist t ∧ K r b1 t1 n) : CallOK P g args bx tp nx K := by
  refine ⟨h.1, fun c w vs hm hn hr => (h.2 c w vs hm hn hr).mono ?_⟩
  rintro e w' ⟨v, c', r, bx', tp', h1, h2, h3, h4, h5, h6, b1, t1, k1, k2, k3⟩
  exact ⟨v, c', r, b1, t1, h1, h2, h3, h4, h5.forget k1 k2, h6, k3⟩
/-- Forgetting, in a state. -/
theorem weak_forget {F : Nat} {sl sl1 : List (Nat × Option AV)} (hs : slotsSub sl sl1) (hb : bx1.Sublist bx) (ht : tp1.Sublist tp) : Weak P F ⟨sl, bx, tp, nx⟩ ⟨sl1, bx1, tp1, nx⟩ := by
  intro N c a w hfl hr
  refine ⟨c, Ext.refl _ _ _, rfl, fun t' av ht' => hr.slots t' av (slotsSub_look hs ht'), hr.size, hr.marks, hr.round, hr.low, hr.mem.forget hb ht, hr.next, hr.floor⟩
end

theorem cX_length (xs : List Int) : (cX xs).length = xs.length := by simp [cX]
theorem cK_length (xs : List Int) : (cK xs).length = xs.length := by simp [cK]
theorem cX_get {xs : List Int} {i : Nat} (h : i < xs.length) : (cX xs)[i]? = some (.lit (.int .i32 xs[i])) := by simp [cX, h]
theorem cK_get {xs : List Int} {i : Nat} (h : i < xs.length) : (cK xs)[i]? = some (.lit (.int .i64 (cls xs[i] : Int))) := by simp [cK, h]

theorem unOb_cX (xs : List Int) : unOb (cX xs) = some (cX xs) := by
  cases xs with
  | nil => exact unOb_nil
  | cons x l => exact unOb_lit _ _
theorem unOb_cK (xs : List Int) : unOb (cK xs) = some (cK xs) := by
  cases xs with
  | nil => exact unOb_nil
  | cons x l => exact unOb_lit _ _
theorem drop_get0 {α : Type} (l : List α) (k : Nat) : (l.drop k)[0]? = l[k]? := by simp
theorem put_one {α : Type} (l : List α) (k : Nat) (a : α) (h : k < l.length) : l.take k ++ [a] ++ l.drop (k + 1) = l.set k a := by rw [List.set_eq_take_append_cons_drop, if_pos h, List.append_assoc]; rfl
theorem cX_put (xs : List Int) (k : Nat) (v : Int) (h : k < xs.length) : (cX xs).take k ++ [AV.lit (.int .i32 v)] ++ (cX xs).drop (k + 1) = cX (xs.set k v) := by
  rw [put_one _ _ _ (by rw [cX_length]; exact h), cX, cX, List.map_set]
theorem cK_put (xs : List Int) (k : Nat) (v : Int) (h : k < xs.length) : (cK xs).take k ++ [AV.lit (.int .i64 (cls v : Int))] ++ (cK xs).drop (k + 1) = cK (xs.set k v) := by
  rw [put_one _ _ _ (by rw [cK_length]; exact h), cK, cK, List.map_set]
theorem dec_cast (a b : Nat) : decide ((a : Int) < (b : Int)) = decide (a < b) := by simp [Int.ofNat_lt]

set_option maxRecDepth 10000 in
theorem len_ok (off n : Nat) (xs : List Int) {nx : Nat} (hnx : 2 ≤ nx) {K : AV → List (Nat × List AV) → List (Nat × TypeId) → Nat → Prop}
    (hK : ∀ nx', 2 ≤ nx' → K (.lit (.int .i64 (n : Int))) (two2 xs) [] nx') : CallOK Try.prog 130 [mrk off n] (two2 xs) [] nx K := by
  refine CallOK.post (callOK_walk Try.func130 c130 n130 e130 r130 (by simp) ?_)
  have e0 : (nx = 0) = False := eq_false (by omega)
  have e1 : (nx = 1) = False := eq_false (by omega)
  simp only [a130, astart, argSlots, mrk, two2, e0, e1, go_sem, Nat.reduceAdd, Nat.reduceEqDiff, Nat.reduceLT, reduceIte, reduceCtorEq, Nat.reduceBEq, Int.reduceLT, Int.reduceToNat, Int.reducePow, Nat.reduceLeDiff, Int.reduceLE, Nat.reduceMul, Nat.reduceSub]
  exact ⟨.inr trivial, _, by simp only [resAV, resL, resOne, go_sem, Nat.reduceAdd, Nat.reduceEqDiff, Nat.reduceLT, reduceIte, reduceCtorEq, Nat.reduceBEq, Int.reduceLT, Int.reduceToNat, Int.reducePow, Nat.reduceLeDiff, Int.reduceLE, Nat.reduceMul, Nat.reduceSub], _, _, .cons _ (List.Sublist.refl _), List.Sublist.refl _, hK _ (by omega)⟩

set_option maxRecDepth 10000 in
theorem less_ok (off n : Nat) (xs : List Int) (i j : Nat) (hi : i < n) (hj : j < n) (hn : off + n ≤ xs.length) {nx : Nat} (hnx : 2 ≤ nx) {K : AV → List (Nat × List AV) → List (Nat × TypeId) → Nat → Prop}
    (hK : ∀ nx', 2 ≤ nx' → K (.lit (.bool (decide (cls (xs[off + i]'(by omega)) < cls (xs[off + j]'(by omega)))))) (two2 xs) [] nx') :
    CallOK Try.prog 131 [mrk off n, .lit (.int .i64 (i : Int)), .lit (.int .i64 (j : Int))] (two2 xs) [] nx K := by
  refine CallOK.post (callOK_walk Try.func131 c131 n131 e131 r131 (by simp) ?_)
  have e0 : (nx = 0) = False := eq_false (by omega)
  have e1 : (nx = 1) = False := eq_false (by omega)
  have g1 := cK_get (xs := xs) (i := off + i) (by omega)
  have g2 := cK_get (xs := xs) (i := off + j) (by omega)
  simp only [a131, astart, argSlots, mrk, two2, e0, e1, hi, hj, Nat.mul_one, unOb_cK, drop_get0, g1, g2, dec_cast, go_sem, Nat.reduceAdd, Nat.reduceEqDiff, Nat.reduceLT, reduceIte, reduceCtorEq, Nat.reduceBEq, Int.reduceLT, Int.reduceToNat, Int.reducePow, Nat.reduceLeDiff, Int.reduceLE, Nat.reduceMul, Nat.reduceSub]
  exact ⟨.inr trivial, _, by simp only [resAV, resL, resOne, go_sem, Nat.reduceAdd, Nat.reduceEqDiff, Nat.reduceLT, reduceIte, reduceCtorEq, Nat.reduceBEq, Int.reduceLT, Int.reduceToNat, Int.reducePow, Nat.reduceLeDiff, Int.reduceLE, Nat.reduceMul, Nat.reduceSub], _, _, .cons _ (List.Sublist.refl _), List.Sublist.refl _, hK _ (by omega)⟩

/-- Two places change what they hold. -/
def swp (l : List Int) (i j : Nat) : List Int := (l.set i (l.getD j 0)).set j (l.getD i 0)
theorem swp_length (l : List Int) (i j : Nat) : (swp l i j).length = l.length := by simp [swp]

set_option maxRecDepth 10000 in
theorem swap_ok (off n : Nat) (xs : List Int) (i j : Nat) (hi : i < n) (hj : j < n) (hn : off + n ≤ xs.length) {nx : Nat} (hnx : 2 ≤ nx) {K : AV → List (Nat × List AV) → List (Nat × TypeId) → Nat → Prop}
    (hK : ∀ r nx', 2 ≤ nx' → K r (two2 (swp xs (off + i) (off + j))) [] nx') :
    CallOK Try.prog 132 [mrk off n, .lit (.int .i64 (i : Int)), .lit (.int .i64 (j : Int))] (two2 xs) [] nx K := by
  refine CallOK.post (callOK_walk Try.func132 c132 n132 e132 r132 (by simp) ?_)
  have e0 : (nx = 0) = False := eq_false (by omega)
  have e1 : (nx = 1) = False := eq_false (by omega)
  have g1 := cK_get (xs := xs) (i := off + i) (by omega)
  have g2 := cK_get (xs := xs) (i := off + j) (by omega)
  have f1 := cX_get (xs := xs) (i := off + i) (by omega)
  have f2 := cX_get (xs := xs) (i := off + j) (by omega)
  have d1 : xs.getD (off + i) 0 = xs[off + i] := by rw [List.getD_eq_getElem?_getD, List.getElem?_eq_getElem]; rfl
  have d2 : xs.getD (off + j) 0 = xs[off + j] := by rw [List.getD_eq_getElem?_getD, List.getElem?_eq_getElem]; rfl
  have l1 : off + i + 1 ≤ xs.length := by omega
  have l2 : off + j + 1 ≤ xs.length := by omega
  have p1 := fun v => cX_put xs (off + i) v (by omega)
  have p2 := fun v w => cX_put (xs.set (off + i) w) (off + j) v (by rw [List.length_set]; omega)
  have q1 := fun v => cK_put xs (off + i) v (by omega)
  have q2 := fun v w => cK_put (xs.set (off + i) w) (off + j) v (by rw [List.length_set]; omega)
  have d0 : (0 = nx) = False := eq_false (by omega)
  have hs : (xs.set (off + i) xs[off + j]).set (off + j) xs[off + i] = swp xs (off + i) (off + j) := by unfold swp; rw [d1, d2]
  simp only [a132, astart, argSlots, mrk, two2, e0, e1, go_sem, Nat.reduceAdd, Nat.reduceEqDiff, Nat.reduceLT, reduceIte, reduceCtorEq, Nat.reduceBEq, Int.reduceLT, Int.reduceToNat, Int.reducePow, Nat.reduceLeDiff, Int.reduceLE, Nat.reduceMul, Nat.reduceSub]
  refine dtr_to ⟨[(1, some (.lit (.int .i64 (i : Int)))), (2, some (.lit (.int .i64 (j : Int)))), (3, some (.bp nx 0))], [(nx, [AV.rf (RK.row 21 1 off n) 0, AV.rf (RK.row 3 1 off n) 1]), (0, cX (swp xs (off + i) (off + j))), (1, cK xs)], [], nx + 1⟩ ?_ ?_
  · simp only [e0, e1, hi, hj, Nat.mul_one, unOb_cX, unOb_cK, drop_get0, f1, f2, p1, p2, cX_length, List.length_set, l1, l2, go_sem, Nat.reduceAdd, Nat.reduceEqDiff, Nat.reduceLT, reduceIte, reduceCtorEq, Nat.reduceBEq, Int.reduceLT, Int.reduceToNat, Int.reducePow, Nat.reduceLeDiff, Int.reduceLE, Nat.reduceMul, Nat.reduceSub]
    rw [← hs]
    refine weak_forget ?_ (List.Sublist.refl _) (List.Sublist.refl _)
    simp only [slotsSub, go_sem, Nat.reduceAdd, Nat.reduceEqDiff, Nat.reduceLT, reduceIte, reduceCtorEq, Nat.reduceBEq, Int.reduceLT, Int.reduceToNat, Int.reducePow, Nat.reduceLeDiff, Int.reduceLE, Nat.reduceMul, Nat.reduceSub]
  · simp only [e0, e1, go_sem, Nat.reduceAdd, Nat.reduceEqDiff, Nat.reduceLT, reduceIte, reduceCtorEq, Nat.reduceBEq, Int.reduceLT, Int.reduceToNat, Int.reducePow, Nat.reduceLeDiff, Int.reduceLE, Nat.reduceMul, Nat.reduceSub]
    refine dtr_to ⟨[], two2 (swp xs (off + i) (off + j)), [], nx + 1⟩ ?_ ?_
    · simp only [e0, e1, d0, hi, hj, Nat.mul_one, unOb_cX, unOb_cK, drop_get0, g1, g2, q1, q2, cK_length, List.length_set, l1, l2, go_sem, Nat.reduceAdd, Nat.reduceEqDiff, Nat.reduceLT, reduceIte, reduceCtorEq, Nat.reduceBEq, Int.reduceLT, Int.reduceToNat, Int.reducePow, Nat.reduceLeDiff, Int.reduceLE, Nat.reduceMul, Nat.reduceSub]
      rw [← hs]
      refine weak_forget ?_ (.cons _ (List.Sublist.refl _)) (List.Sublist.refl _)
      simp only [slotsSub]
    · simp only [go_sem, Nat.reduceAdd, Nat.reduceEqDiff, Nat.reduceLT, reduceIte, reduceCtorEq, Nat.reduceBEq, Int.reduceLT, Int.reduceToNat, Int.reducePow, Nat.reduceLeDiff, Int.reduceLE, Nat.reduceMul, Nat.reduceSub]
      exact ⟨.inl trivial, _, rfl, _, _, List.Sublist.refl _, List.Sublist.refl _, hK _ _ (by omega)⟩
end Go.Proofs.Ytmhpjoadfgplgaa
