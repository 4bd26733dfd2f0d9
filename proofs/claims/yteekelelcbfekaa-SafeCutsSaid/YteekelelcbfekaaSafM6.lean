/-
What a text is shown as. Conditions: none.
-/
import Derived.Test.YteekelelcbfekaaSafM5
import Derived.Test.YteekelelcbfekaaSafM2
import Derived.Test.YteekelelcbfekaaSafM3
set_option linter.unusedSimpArgs false
set_option linter.unusedVariables false
set_option linter.unusedSectionVars false

/-! ## SafA -/

namespace Go.Proofs.Yteekelelcbfekaa
open Go Go.Ab
def a36 : ACode :=
  (.seq (.reg [⟨(.some 6), (.mv (.k (.bool false))), .none⟩]) (.seq (.seq (.reg [⟨(.some 9), (.mv (.t 0)), .none⟩, ⟨(.some 10), (.lenS (.t 9)), .none⟩, ⟨(.some 11), (.mv (.k (.int .i64 0))), .none⟩])
  (.block 0 (.loop (.seq (.reg [⟨(.some 12), (.bin .lss (.t 11) (.t 10)), .none⟩]) (.seq (.cond (.t 12) .skip (.exit 0)) (.seq (.block 1 (.seq (.reg [⟨(.some 13), (.mv (.t 11)), .none⟩, ⟨(.some 7), (.mv
  (.t 13)), .none⟩]) (.seq (.reg [⟨(.some 14), (.mv (.t 0)), .none⟩, ⟨(.some 15), (.mv (.t 7)), .none⟩, ⟨(.some 16), (.ixS (.t 14) (.t 15)), .none⟩, ⟨(.some 17), (.cvI .i32 (.t 16)), .none⟩, ⟨(.some 8),
  (.mv (.t 17)), .none⟩]) (.seq (.seq (.reg [⟨(.some 18), (.mv (.t 8)), .none⟩, ⟨(.some 19), (.bin .gtr (.t 18) (.k (.int .i32 127))), .none⟩]) (.cond (.t 19) (.reg [⟨(.some 8), (.mv (.k (.int .i32
  65533))), .none⟩]) .skip)) (.seq (.reg [⟨(.some 20), (.mv (.t 2)), .none⟩, ⟨(.some 21), (.mv (.t 8)), .none⟩, ⟨(.some 22), (.mv (.t 1)), .none⟩, ⟨(.some 23), (.mv (.t 7)), .none⟩, ⟨(.some 24), (.bin
  .add (.t 22) (.t 23)), .none⟩, ⟨(.some 25), (.mv (.t 1)), .none⟩, ⟨(.some 26), (.mv (.t 7)), .none⟩, ⟨(.some 27), (.bin .add (.t 25) (.t 26)), .none⟩, ⟨(.some 28), (.bin .add (.t 27) (.k (.int .i64
  1))), .none⟩, ⟨(.some 29), (.bd [(.int .i32 0), (.int .i64 0), (.int .i64 0)] [(0, (1, (.t 21))), (1, (1, (.t 24))), (2, (1, (.t 28)))]), .none⟩, ⟨(.some 30), (.call (.t 20) [(.t 29)]), .none⟩,
  ⟨(.some 31), (.not (.t 30)), .none⟩]) (.cond (.t 31) (.seq (.reg [⟨(.some 6), (.mv (.k (.bool false))), .none⟩]) .ret) .skip)))))) (.reg [⟨(.some 32), (.bin .add (.t 11) (.k (.int .i64 1))), .none⟩,
  ⟨(.some 11), (.mv (.t 32)), .none⟩]))))))) (.seq (.reg [⟨(.some 6), (.mv (.k (.bool true))), .none⟩]) .ret)))
theorem c36 : Try.f36.body.bind (cCode Try.prog 33) = some a36 := by kernel_rfl
theorem r36 : Try.f36.results.toList = [(.tmp 6)] := by kernel_rfl
theorem n36 : Try.f36.ntmps = 33 := by kernel_rfl
theorem e36 : Enters Try.prog 36 := enters_of Try.func36 (by kernel_rfl) (by kernel_rfl)
def a35 : ACode :=
  (.seq (.reg [⟨(.some 6), (.mv (.k (.bool false))), .none⟩]) (.seq (.seq (.reg [⟨(.some 11), (.mv (.t 0)), .none⟩, ⟨(.some 12), (.call (.f 16) [(.t 11)]), .none⟩, ⟨(.some 13), (.call (.f 49) [(.t
  12)]), .none⟩, ⟨(.some 14), (.len (.t 13)), .none⟩, ⟨(.some 15), (.mv (.k (.int .i64 0))), .none⟩]) (.block 0 (.loop (.seq (.reg [⟨(.some 16), (.bin .lss (.t 15) (.t 14)), .none⟩]) (.seq (.cond (.t
  16) .skip (.exit 0)) (.seq (.block 1 (.seq (.reg [⟨(.some 17), (.ia 35 (.t 13) (.t 15)), .none⟩, ⟨(.some 18), (.ld (.some 3) (.t 17)), .none⟩, ⟨(.some 8), (.alc 35 [(.int .i32 0), (.int .i64 0), (.int
  .i64 0)]), .none⟩, ⟨.none, (.st 3 (.t 8) (.t 18)), .none⟩]) (.seq (.dreg [⟨(.some 19), (.fa 1 (.t 8)), .none⟩, ⟨(.some 20), (.ld .none (.t 19)), .none⟩, ⟨(.some 21), (.bin .mul (.k (.int .i64 3)) (.t
  20)), .none⟩, ⟨(.some 22), (.fa 2 (.t 8)), .none⟩, ⟨(.some 23), (.ld .none (.t 22)), .none⟩, ⟨(.some 24), (.bin .mul (.k (.int .i64 3)) (.t 23)), .none⟩, ⟨(.some 9), (.mv (.t 21)), .none⟩, ⟨(.some
  10), (.mv (.t 24)), .none⟩]) (.seq (.seq (.reg [⟨(.some 25), (.fa 0 (.t 8)), .none⟩, ⟨(.some 26), (.ld .none (.t 25)), .none⟩, ⟨(.some 27), (.call (.f 8) [(.t 26)]), .none⟩]) (.cond (.t 27) (.seq
  (.seq (.reg [⟨(.some 28), (.mv (.t 2)), .none⟩, ⟨(.some 29), (.fa 0 (.t 8)), .none⟩, ⟨(.some 30), (.ld .none (.t 29)), .none⟩, ⟨(.some 31), (.mv (.t 1)), .none⟩, ⟨(.some 32), (.mv (.t 9)), .none⟩,
  ⟨(.some 33), (.bin .add (.t 31) (.t 32)), .none⟩, ⟨(.some 34), (.mv (.t 1)), .none⟩, ⟨(.some 35), (.mv (.t 10)), .none⟩, ⟨(.some 36), (.bin .add (.t 34) (.t 35)), .none⟩, ⟨(.some 37), (.bd [(.int .i32
  0), (.int .i64 0), (.int .i64 0)] [(0, (1, (.t 30))), (1, (1, (.t 33))), (2, (1, (.t 36)))]), .none⟩, ⟨(.some 38), (.call (.t 28) [(.t 37)]), .none⟩, ⟨(.some 39), (.not (.t 38)), .none⟩]) (.cond (.t
  39) (.seq (.reg [⟨(.some 6), (.mv (.k (.bool false))), .none⟩]) .ret) .skip)) (.exit 1)) .skip)) (.seq (.reg [⟨(.some 40), (.mv (.t 0)), .none⟩, ⟨(.some 41), (.mv (.t 9)), .none⟩, ⟨(.some 42), (.mv
  (.t 10)), .none⟩, ⟨(.some 43), (.slS (.t 40) (.some (.t 41)) (.some (.t 42))), .none⟩, ⟨(.some 44), (.mv (.t 1)), .none⟩, ⟨(.some 45), (.mv (.t 9)), .none⟩, ⟨(.some 46), (.bin .add (.t 44) (.t 45)),
  .none⟩, ⟨(.some 47), (.mv (.t 2)), .none⟩, ⟨(.some 48), (.call (.f 36) [(.t 43), (.t 46), (.t 47)]), .none⟩, ⟨(.some 49), (.not (.t 48)), .none⟩]) (.cond (.t 49) (.seq (.reg [⟨(.some 6), (.mv (.k
  (.bool false))), .none⟩]) .ret) .skip)))))) (.reg [⟨(.some 50), (.bin .add (.t 15) (.k (.int .i64 1))), .none⟩, ⟨(.some 15), (.mv (.t 50)), .none⟩]))))))) (.seq (.reg [⟨(.some 6), (.mv (.k (.bool
  true))), .none⟩]) .ret)))
theorem c35 : Try.f35.body.bind (cCode Try.prog 51) = some a35 := by kernel_rfl
theorem r35 : Try.f35.results.toList = [(.tmp 6)] := by kernel_rfl
theorem n35 : Try.f35.ntmps = 51 := by kernel_rfl
theorem e35 : Enters Try.prog 35 := enters_of Try.func35 (by kernel_rfl) (by kernel_rfl)

section
variable {P : Program} {g : FuncId} {id : Nat} {args : List AV} {bx bx1 : List (Nat × List AV)} {tp tp1 : List (Nat × TypeId)} {nx : Nat} {K : AV → List (Nat × List AV) → List (Nat × TypeId) → Nat → Prop}
/-- What is not used may be forgotten, ahead of a call. -/
theorem CallOK.forget (hb : bx1.Sublist bx) (ht : tp1.Sublist tp) (h : CallOK P g args bx1 tp1 nx K) : CallOK P g args bx tp nx K :=
  ⟨h.1, fun c w vs hm hn hr => h.2 c w vs (hm.forget hb ht) hn hr⟩
theorem YieldOK.forget (hb : bx1.Sublist bx) (ht : tp1.Sublist tp) (h : YieldOK P id args bx1 tp1 nx K) : YieldOK P id args bx tp nx K :=
  fun c w vs hm hn hr => h c w vs (hm.forget hb ht) hn hr
theorem YieldOK.post (h : YieldOK P id args bx tp nx fun r b t n => ∃ b1 t1, b1.Sublist b ∧ t1.Sublist t ∧ K r b1 t1 n) : YieldOK P id args bx tp nx K := by
  intro c w vs hm hn hr
  obtain ⟨f, tmps, assign, body, h1, h2⟩ := h c w vs hm hn hr
  refine ⟨f, tmps, assign, body, h1, h2.mono ?_⟩
  rintro e w' ⟨v, c', r, bx', tp', h1, h2, h3, h4, h5, h6, b1, t1, k1, k2, k3⟩
  exact ⟨v, c', r, b1, t1, h1, h2, h3, h4, h5.forget k1 k2, h6, k3⟩
/-- Forgetting, in a state. -/
theorem weak_forget {F : Nat} {sl sl1 : List (Nat × Option AV)} (hs : slotsSub sl sl1) (hb : bx1.Sublist bx) (ht : tp1.Sublist tp) : Weak P F ⟨sl, bx, tp, nx⟩ ⟨sl1, bx1, tp1, nx⟩ := by
  intro N c a w hfl hr
  refine ⟨c, Ext.refl _ _ _, rfl, fun t' av ht' => hr.slots t' av (slotsSub_look hs ht'), hr.size, hr.marks, hr.round, hr.low, hr.mem.forget hb ht, hr.next, hr.floor⟩
end

/-- A code as it is handed on. -/
def codeA (x : T3) : AV := .ag [.lit (.int .i32 ((x.1 : Nat) : Int)), .lit (.int .i64 ((x.2.1 : Nat) : Int)), .lit (.int .i64 ((x.2.2 : Nat) : Int))]

/-- Rounds that take codes one by one, up to some. -/
def Takes (id N : Nat) (J : List T3 → List (Nat × List AV) → List (Nat × TypeId) → Nat → Prop) : Prop :=
  (∀ acc bx tp nx nx', J acc bx tp nx → nx ≤ nx' → J acc bx tp nx') ∧
  ∀ acc c bx tp nx (K : AV → List (Nat × List AV) → List (Nat × TypeId) → Nat → Prop), acc.length < N → J acc bx tp nx →
    (∀ bx' tp' nx', J (acc ++ [c]) bx' tp' nx' → K (.lit (.bool true)) bx' tp' nx') → YieldOK Try.prog id [codeA c] bx tp nx K

theorem callGo_takes {id N : Nat} {J : List T3 → List (Nat × List AV) → List (Nat × TypeId) → Nat → Prop} (hT : Takes id N J) {acc : List T3} (c : T3) {bx : List (Nat × List AV)} {tp : List (Nat × TypeId)} {nx : Nat} {sl : List (Nat × Option AV)} {d : Option Nat} {K : State → Prop}
    (hN : acc.length < N) (hJ : J acc bx tp nx) (hK : ∀ bx' tp' nx', J (acc ++ [c]) bx' tp' nx' → K (State.put ⟨sl, bx', tp', nx'⟩ d (.lit (.bool true)))) : callGo Try.prog (some (.rf .yield id)) (some [codeA c]) d ⟨sl, bx, tp, nx⟩ K :=
  hT.2 acc c bx tp nx (fun r bx tp nx => K (State.put ⟨sl, bx, tp, nx⟩ d r)) hN hJ hK

set_option maxRecDepth 10000 in
theorem each_ok {id N : Nat} {J : List T3 → List (Nat × List AV) → List (Nat × TypeId) → Nat → Prop} (hT : Takes id N J) (b : List Nat) (at_ : Nat) (hb : ∀ n ∈ b, n ≤ 255) (hl : b.length ≤ 1099511627776) (hat : at_ ≤ 4398046511104)
    {acc : List T3} {bx : List (Nat × List AV)} {tp : List (Nat × TypeId)} {nx : Nat} {K : AV → List (Nat × List AV) → List (Nat × TypeId) → Nat → Prop} (hN : acc.length + b.length ≤ N) (hJ : J acc bx tp nx)
    (hK : ∀ bx' tp' nx', J (acc ++ eachT at_ b) bx' tp' nx' → K (.lit (.bool true)) bx' tp' nx') :
    CallOK Try.prog 36 [.lit (.string (txt b)), .lit (.int .i64 (at_ : Int)), .rf .yield id] bx tp nx K := by
  refine callOK_walk Try.func36 c36 n36 e36 r36 (by simp) ?_
  simp only [a36, astart, argSlots, go_sem, Nat.reduceAdd, Nat.reduceEqDiff, Nat.reduceLT, reduceIte, reduceCtorEq, Nat.reduceBEq, Int.reduceLT, Int.reduceToNat, Int.reducePow, Nat.reduceLeDiff, Int.reduceLE, Nat.reduceMul, Nat.reduceSub]
  refine loop_by (α := Nat × List (Nat × List AV) × List (Nat × TypeId) × Nat) (fun x => ⟨[(0, some (.lit (.string (txt b)))), (1, some (.lit (.int .i64 (at_ : Int)))), (2, some (.rf .yield id)), (10, some (.lit (.int .i64 (b.length : Int)))), (11, some (.lit (.int .i64 ((x.1 : Nat) : Int))))], x.2.1, x.2.2.1, x.2.2.2⟩)
    (fun x => x.1 ≤ b.length ∧ J (acc ++ eachT at_ (b.take x.1)) x.2.1 x.2.2.1 x.2.2.2) (fun x => b.length - x.1) (fun x y h => by
      have := congrArg (cnt 11) h
      simp [cnt, Ab.look] at this
      rw [this]) (0, bx, tp, nx) (weak_forget ?_ (List.Sublist.refl _) (List.Sublist.refl _)) ⟨by simp, by simpa [eachT] using hJ⟩ ?_
  · simp only [go_sem, Nat.reduceAdd, Nat.reduceEqDiff, Nat.reduceLT, reduceIte, reduceCtorEq, Nat.reduceBEq, Int.reduceLT, Int.reduceToNat, Int.reducePow, Nat.reduceLeDiff, Int.reduceLE, Nat.reduceMul, Nat.reduceSub, slotsBy, boxesBy, tipsBy, rawAt, nm, AV.ren, AV.renL, AV.under, AV.underL, List.all_nil, List.all_cons, bne_self_eq_false, List.getD_cons_zero, List.getD_cons_succ, List.length_nil, List.length_cons, and_true, true_and, slotsSub, Int.natCast_zero, txt_size]
  · rintro ⟨i, bx1, tp1, nx1⟩ ⟨hi, hj⟩
    simp only at hi hj
    simp only [go_sem, Nat.reduceAdd, Nat.reduceEqDiff, Nat.reduceLT, reduceIte, reduceCtorEq, Nat.reduceBEq, Int.reduceLT, Int.reduceToNat, Int.reducePow, Nat.reduceLeDiff, Int.reduceLE, Nat.reduceMul, Nat.reduceSub]
    rcases Nat.lt_or_eq_of_le hi with hlt | heq
    · have hbi := hb b[i] (List.getElem_mem hlt)
      have h1 : IntKind.i64.wrap ((i : Int) + 1) = ((i + 1 : Nat) : Int) := by rw [wrap_i64 _ (by omega) (by omega)]; omega
      have h2 : IntKind.i64.wrap ((at_ : Int) + (i : Int)) = ((at_ + i : Nat) : Int) := by rw [wrap_i64 _ (by omega) (by omega)]; omega
      have h3 : IntKind.i64.wrap (((at_ + i : Nat) : Int) + 1) = ((at_ + i + 1 : Nat) : Int) := by rw [wrap_i64 _ (by omega) (by omega)]; omega
      have h4 : IntKind.i32.wrap ((b[i] : Nat) : Int) = ((b[i] : Nat) : Int) := wrap_i32 _ (by omega) (by omega)
      simp only [dec_lt hlt, txt_get hlt, u8_int hbi, h1, h2, h3, h4, go_sem, Nat.reduceAdd, Nat.reduceEqDiff, Nat.reduceLT, reduceIte, reduceCtorEq, Nat.reduceBEq, Int.reduceLT, Int.reduceToNat, Int.reducePow, Nat.reduceLeDiff, Int.reduceLE, Nat.reduceMul, Nat.reduceSub]
      have hnext : acc ++ eachT at_ (b.take i) ++ [oneT (at_ + i) b[i]] = acc ++ eachT at_ (b.take (i + 1)) := by rw [eachT_take hlt, List.append_assoc]
      have hNi : (acc ++ eachT at_ (b.take i)).length < N := by rw [List.length_append, eachT_length, List.length_take]; omega
      refine cGo_split (fun h => ?_) (fun h => ?_)
      · simp only [decide_eq_true_eq] at h
        have e : AV.ag [.lit (.int .i32 65533), .lit (.int .i64 ((at_ + i : Nat) : Int)), .lit (.int .i64 ((at_ + i + 1 : Nat) : Int))] = codeA (oneT (at_ + i) b[i]) := by simp only [codeA, oneT, if_pos (show 127 < b[i] by omega)]; rfl
        simp only [h2, h3, go_sem, Nat.reduceAdd, Nat.reduceEqDiff, Nat.reduceLT, reduceIte, reduceCtorEq, Nat.reduceBEq, Int.reduceLT, Int.reduceToNat, Int.reducePow, Nat.reduceLeDiff, Int.reduceLE, Nat.reduceMul, Nat.reduceSub]
        rw [e]
        refine callGo_takes hT _ hNi hj fun bx2 tp2 nx2 hj2 => ?_
        rw [hnext] at hj2
        simp only [Bool.not_true, h1, go_sem, Nat.reduceAdd, Nat.reduceEqDiff, Nat.reduceLT, reduceIte, reduceCtorEq, Nat.reduceBEq, Int.reduceLT, Int.reduceToNat, Int.reducePow, Nat.reduceLeDiff, Int.reduceLE, Nat.reduceMul, Nat.reduceSub]
        refine ⟨(i + 1, bx2, tp2, nx2), weak_forget ?_ (List.Sublist.refl _) (List.Sublist.refl _), ⟨by omega, hj2⟩, by simp only; omega⟩
        simp only [go_sem, Nat.reduceAdd, Nat.reduceEqDiff, Nat.reduceLT, reduceIte, reduceCtorEq, Nat.reduceBEq, Int.reduceLT, Int.reduceToNat, Int.reducePow, Nat.reduceLeDiff, Int.reduceLE, Nat.reduceMul, Nat.reduceSub, slotsBy, boxesBy, tipsBy, rawAt, nm, AV.ren, AV.renL, AV.under, AV.underL, List.all_nil, List.all_cons, bne_self_eq_false, List.getD_cons_zero, List.getD_cons_succ, List.length_nil, List.length_cons, and_true, true_and, slotsSub]
      · simp only [decide_eq_false_iff_not] at h
        have e : AV.ag [.lit (.int .i32 ((b[i] : Nat) : Int)), .lit (.int .i64 ((at_ + i : Nat) : Int)), .lit (.int .i64 ((at_ + i + 1 : Nat) : Int))] = codeA (oneT (at_ + i) b[i]) := by simp only [codeA, oneT, if_neg (show ¬ 127 < b[i] by omega)]
        simp only [h2, h3, go_sem, Nat.reduceAdd, Nat.reduceEqDiff, Nat.reduceLT, reduceIte, reduceCtorEq, Nat.reduceBEq, Int.reduceLT, Int.reduceToNat, Int.reducePow, Nat.reduceLeDiff, Int.reduceLE, Nat.reduceMul, Nat.reduceSub]
        rw [e]
        refine callGo_takes hT _ hNi hj fun bx2 tp2 nx2 hj2 => ?_
        rw [hnext] at hj2
        simp only [Bool.not_true, h1, go_sem, Nat.reduceAdd, Nat.reduceEqDiff, Nat.reduceLT, reduceIte, reduceCtorEq, Nat.reduceBEq, Int.reduceLT, Int.reduceToNat, Int.reducePow, Nat.reduceLeDiff, Int.reduceLE, Nat.reduceMul, Nat.reduceSub]
        refine ⟨(i + 1, bx2, tp2, nx2), weak_forget ?_ (List.Sublist.refl _) (List.Sublist.refl _), ⟨by omega, hj2⟩, by simp only; omega⟩
        simp only [go_sem, Nat.reduceAdd, Nat.reduceEqDiff, Nat.reduceLT, reduceIte, reduceCtorEq, Nat.reduceBEq, Int.reduceLT, Int.reduceToNat, Int.reducePow, Nat.reduceLeDiff, Int.reduceLE, Nat.reduceMul, Nat.reduceSub, slotsBy, boxesBy, tipsBy, rawAt, nm, AV.ren, AV.renL, AV.under, AV.underL, List.all_nil, List.all_cons, bne_self_eq_false, List.getD_cons_zero, List.getD_cons_succ, List.length_nil, List.length_cons, and_true, true_and, slotsSub]
    · subst heq
      rw [List.take_length] at hj
      simp only [dec_irr, go_sem, Nat.reduceAdd, Nat.reduceEqDiff, Nat.reduceLT, reduceIte, reduceCtorEq, Nat.reduceBEq, Int.reduceLT, Int.reduceToNat, Int.reducePow, Nat.reduceLeDiff, Int.reduceLE, Nat.reduceMul, Nat.reduceSub]
      exact ⟨.inr trivial, _, by simp only [resAV, resL, resOne, go_sem, Nat.reduceAdd, Nat.reduceEqDiff, Nat.reduceLT, reduceIte, reduceCtorEq, Nat.reduceBEq, Int.reduceLT, Int.reduceToNat, Int.reducePow, Nat.reduceLeDiff, Int.reduceLE, Nat.reduceMul, Nat.reduceSub], hK _ _ _ hj⟩

theorem callGo_takes' {id N : Nat} {J : List T3 → List (Nat × List AV) → List (Nat × TypeId) → Nat → Prop} (hT : Takes id N J) {acc : List T3} (c : T3) {bx bx1 : List (Nat × List AV)} {tp tp1 : List (Nat × TypeId)} {nx nx1 : Nat} {sl : List (Nat × Option AV)} {d : Option Nat} {K : State → Prop}
    (hb : bx1.Sublist bx) (ht : tp1.Sublist tp) (hx : nx1 ≤ nx) (hN : acc.length < N) (hJ : J acc bx1 tp1 nx1) (hK : ∀ bx' tp' nx', J (acc ++ [c]) bx' tp' nx' → K (State.put ⟨sl, bx', tp', nx'⟩ d (.lit (.bool true)))) : callGo Try.prog (some (.rf .yield id)) (some [codeA c]) d ⟨sl, bx, tp, nx⟩ K :=
  YieldOK.forget hb ht (hT.2 acc c bx1 tp1 nx (fun r bx tp nx => K (State.put ⟨sl, bx, tp, nx⟩ d r)) hN (hT.1 _ _ _ _ _ hJ hx) hK)

theorem codesC_get (l : List (Nat × Nat × Nat × Bool)) (i : Nat) (h : i < l.length) : (codesC l)[i]? = some [.int .i32 ((l[i].1 : Nat) : Int), .int .i64 ((l[i].2.1 : Nat) : Int), .int .i64 ((l[i].2.2.1 : Nat) : Int)] := by simp [codesC, codeC, h]
theorem flat_take {l : List (Nat × Nat × Nat × Bool)} {i : Nat} (h : i < l.length) (f : Nat × Nat × Nat × Bool → List T3) : (l.take (i + 1)).flatMap f = (l.take i).flatMap f ++ f l[i] := by
  rw [List.take_succ_eq_append_getElem h, List.flatMap_append]; simp

set_option maxRecDepth 10000 in
theorem said_ok {id N : Nat} {J : List T3 → List (Nat × List AV) → List (Nat × TypeId) → Nat → Prop} (hT : Takes id N J) (b : List Nat) (at_ : Nat) (hb : ∀ n ∈ b, n ≤ 255) (hl : b.length ≤ 1099511627776) (hat : at_ ≤ 1099511627776) (hrow : 3 * (decP b).length ≤ b.length)
    {acc : List T3} {bx : List (Nat × List AV)} {tp : List (Nat × TypeId)} {nx : Nat} {K : AV → List (Nat × List AV) → List (Nat × TypeId) → Nat → Prop} (hN : acc.length + (saidT at_ b).length ≤ N) (hJ : J acc bx tp nx)
    (hK : ∀ bx' tp' nx', J (acc ++ saidT at_ b) bx' tp' nx' → K (.lit (.bool true)) bx' tp' nx') :
    CallOK Try.prog 35 [.lit (.string (txt b)), .lit (.int .i64 (at_ : Int)), .rf .yield id] bx tp nx K := by
  refine callOK_walk Try.func35 c35 n35 e35 r35 (by simp) ?_
  simp only [a35, astart, argSlots, go_sem, Nat.reduceAdd, Nat.reduceEqDiff, Nat.reduceLT, reduceIte, reduceCtorEq, Nat.reduceBEq, Int.reduceLT, Int.reduceToNat, Int.reducePow, Nat.reduceLeDiff, Int.reduceLE, Nat.reduceMul, Nat.reduceSub]
  refine callGo_pure (pctDecode_pure b hb hl) (by rfl) ?_
  simp only [go_sem, Nat.reduceAdd, Nat.reduceEqDiff, Nat.reduceLT, reduceIte, reduceCtorEq, Nat.reduceBEq, Int.reduceLT, Int.reduceToNat, Int.reducePow, Nat.reduceLeDiff, Int.reduceLE, Nat.reduceMul, Nat.reduceSub]
  refine callGo_pure (codes_pure _ (decP_le hb) (by omega)) (by rfl) ?_
  simp only [go_sem, Nat.reduceAdd, Nat.reduceEqDiff, Nat.reduceLT, reduceIte, reduceCtorEq, Nat.reduceBEq, Int.reduceLT, Int.reduceToNat, Int.reducePow, Nat.reduceLeDiff, Int.reduceLE, Nat.reduceMul, Nat.reduceSub, codesC_length]
  obtain ⟨L, hL⟩ : ∃ L, L = cut 0 (decP b) := ⟨_, rfl⟩
  have hsaid : saidT at_ b = L.flatMap (sayT b at_) := by rw [hL]; rfl
  have hLm : ∀ x ∈ L, x.2.1 < x.2.2.1 ∧ x.2.2.1 ≤ (decP b).length := fun x hx => cut_mem (by rw [← hL]; exact hx)
  have hLl : L.length ≤ (decP b).length := by rw [hL]; exact cut_length _ _
  rw [hsaid] at hN hK
  rw [← hL]
  clear hL
  refine loop_by (α := Nat × List (Nat × List AV) × List (Nat × TypeId) × Nat) (fun x => ⟨[(0, some (.lit (.string (txt b)))), (1, some (.lit (.int .i64 (at_ : Int)))), (2, some (.rf .yield id)), (13, some (.sl 35 (codesC L) none)), (14, some (.lit (.int .i64 (L.length : Int)))), (15, some (.lit (.int .i64 ((x.1 : Nat) : Int))))], x.2.1, x.2.2.1, x.2.2.2⟩)
    (fun x => x.1 ≤ L.length ∧ J (acc ++ (L.take x.1).flatMap (sayT b at_)) x.2.1 x.2.2.1 x.2.2.2) (fun x => L.length - x.1) (fun x y h => by
      have := congrArg (cnt 15) h
      simp [cnt, Ab.look] at this
      rw [this]) (0, bx, tp, nx + 1 + 1) ((weak_untip 13 rfl).trans (weak_forget ?_ (List.Sublist.refl _) ?_)) ⟨by simp, by simpa using hT.1 _ _ _ _ _ hJ (by omega)⟩ ?_
  · simp only [go_sem, Nat.reduceAdd, Nat.reduceEqDiff, Nat.reduceLT, reduceIte, reduceCtorEq, Nat.reduceBEq, Int.reduceLT, Int.reduceToNat, Int.reducePow, Nat.reduceLeDiff, Int.reduceLE, Nat.reduceMul, Nat.reduceSub, slotsBy, boxesBy, tipsBy, rawAt, nm, AV.ren, AV.renL, AV.under, AV.underL, List.all_nil, List.all_cons, bne_self_eq_false, List.getD_cons_zero, List.getD_cons_succ, List.length_nil, List.length_cons, and_true, true_and, slotsSub, Int.natCast_zero, txt_size]
  · exact .cons _ (.cons _ (List.Sublist.refl _))
  · rintro ⟨i, bx1, tp1, nx1⟩ ⟨hi, hj⟩
    simp only at hi hj
    simp only [go_sem, Nat.reduceAdd, Nat.reduceEqDiff, Nat.reduceLT, reduceIte, reduceCtorEq, Nat.reduceBEq, Int.reduceLT, Int.reduceToNat, Int.reducePow, Nat.reduceLeDiff, Int.reduceLE, Nat.reduceMul, Nat.reduceSub]
    rcases Nat.lt_or_eq_of_le hi with hlt | heq
    · have hm := hLm L[i] (List.getElem_mem hlt)
      have hg := codesC_get L i hlt
      have hfl := flat_take hlt (sayT b at_)
      have hpre := say_prefix b at_ (i + 1) L
      rw [hfl, List.length_append] at hpre
      generalize L[i] = x at hm hg hfl hpre
      obtain ⟨r, from_, to_, ok⟩ := x
      simp only at hm hg hfl hpre
      have h1 : IntKind.i64.wrap ((i : Int) + 1) = ((i + 1 : Nat) : Int) := by rw [wrap_i64 _ (by omega) (by omega)]; omega
      have w1 : IntKind.i64.wrap (3 * (from_ : Int)) = ((3 * from_ : Nat) : Int) := by rw [wrap_i64 _ (by omega) (by omega)]; omega
      have w2 : IntKind.i64.wrap (3 * (to_ : Int)) = ((3 * to_ : Nat) : Int) := by rw [wrap_i64 _ (by omega) (by omega)]; omega
      have w3 : IntKind.i64.wrap ((at_ : Int) + ((3 * from_ : Nat) : Int)) = ((at_ + 3 * from_ : Nat) : Int) := by rw [wrap_i64 _ (by omega) (by omega)]; omega
      have w4 : IntKind.i64.wrap ((at_ : Int) + ((3 * to_ : Nat) : Int)) = ((at_ + 3 * to_ : Nat) : Int) := by rw [wrap_i64 _ (by omega) (by omega)]; omega
      simp only [dec_lt hlt, hg, w1, w2, w3, w4, go_sem, Nat.reduceAdd, Nat.reduceEqDiff, Nat.reduceLT, reduceIte, reduceCtorEq, Nat.reduceBEq, Int.reduceLT, Int.reduceToNat, Int.reducePow, Nat.reduceLeDiff, Int.reduceLE, Nat.reduceMul, Nat.reduceSub, allOne, AV.one, Value.oneCell', Int.natCast_zero, Nat.le_refl]
      refine callGo_pure (safe_pure _) (by rfl) ?_
      cases hs : safeOf (r : Int)
      · have hsay : sayT b at_ (r, from_, to_, ok) = eachT (at_ + 3 * from_) ((b.take (3 * to_)).drop (3 * from_)) := by simp only [sayT, hs, Bool.false_eq_true, if_false]
        rw [hsay] at hfl hpre
        rw [eachT_length, List.length_drop, List.length_take] at hpre
        have hin : (if 3 * from_ ≤ 3 * to_ ∧ 3 * to_ ≤ b.length then some (3 * from_, 3 * to_) else none : Option (Nat × Nat)) = some (3 * from_, 3 * to_) := if_pos ⟨by omega, by omega⟩
        simp only [w3, txt_size, hin, txt_slice, go_sem, Nat.reduceAdd, Nat.reduceEqDiff, Nat.reduceLT, reduceIte, reduceCtorEq, Nat.reduceBEq, Int.reduceLT, Int.reduceToNat, Int.reducePow, Nat.reduceLeDiff, Int.reduceLE, Nat.reduceMul, Nat.reduceSub]
        refine callGo_ok (CallOK.forget (bx1 := bx1) (tp1 := tp1) (.cons _ (List.Sublist.refl _)) (List.Sublist.refl _) (each_ok hT _ _ (fun n hn => hb n (List.mem_of_mem_take (List.mem_of_mem_drop hn))) (by simp only [List.length_drop, List.length_take]; omega) (by omega) (by simp only [List.length_append, List.length_drop, List.length_take]; omega) (hT.1 _ _ _ _ _ hj (by omega)) fun bx2 tp2 nx2 hj2 => ?_))
        rw [List.append_assoc, ← hfl] at hj2
        simp only [Bool.not_true, h1, go_sem, Nat.reduceAdd, Nat.reduceEqDiff, Nat.reduceLT, reduceIte, reduceCtorEq, Nat.reduceBEq, Int.reduceLT, Int.reduceToNat, Int.reducePow, Nat.reduceLeDiff, Int.reduceLE, Nat.reduceMul, Nat.reduceSub]
        refine ⟨(i + 1, bx2, tp2, nx2), weak_forget ?_ (List.Sublist.refl _) (List.Sublist.refl _), ⟨by omega, hj2⟩, by simp only; omega⟩
        simp only [go_sem, Nat.reduceAdd, Nat.reduceEqDiff, Nat.reduceLT, reduceIte, reduceCtorEq, Nat.reduceBEq, Int.reduceLT, Int.reduceToNat, Int.reducePow, Nat.reduceLeDiff, Int.reduceLE, Nat.reduceMul, Nat.reduceSub, slotsBy, boxesBy, tipsBy, rawAt, nm, AV.ren, AV.renL, AV.under, AV.underL, List.all_nil, List.all_cons, bne_self_eq_false, List.getD_cons_zero, List.getD_cons_succ, List.length_nil, List.length_cons, and_true, true_and, slotsSub]
      · have hsay : sayT b at_ (r, from_, to_, ok) = [(r, at_ + 3 * from_, at_ + 3 * to_)] := by simp only [sayT, hs, if_true]
        rw [hsay] at hfl hpre
        simp only [List.length_cons, List.length_nil] at hpre
        simp only [w3, w4, go_sem, Nat.reduceAdd, Nat.reduceEqDiff, Nat.reduceLT, reduceIte, reduceCtorEq, Nat.reduceBEq, Int.reduceLT, Int.reduceToNat, Int.reducePow, Nat.reduceLeDiff, Int.reduceLE, Nat.reduceMul, Nat.reduceSub, allOne, AV.one, Value.oneCell', Int.natCast_zero, Nat.le_refl]
        refine callGo_takes' (bx1 := bx1) (tp1 := tp1) (nx1 := nx1) hT (r, at_ + 3 * from_, at_ + 3 * to_) (.cons _ (List.Sublist.refl _)) (List.Sublist.refl _) (by omega) (by rw [List.length_append]; omega) hj fun bx2 tp2 nx2 hj2 => ?_
        rw [List.append_assoc, ← hfl] at hj2
        simp only [Bool.not_true, h1, go_sem, Nat.reduceAdd, Nat.reduceEqDiff, Nat.reduceLT, reduceIte, reduceCtorEq, Nat.reduceBEq, Int.reduceLT, Int.reduceToNat, Int.reducePow, Nat.reduceLeDiff, Int.reduceLE, Nat.reduceMul, Nat.reduceSub]
        refine ⟨(i + 1, bx2, tp2, nx2), weak_forget ?_ (List.Sublist.refl _) (List.Sublist.refl _), ⟨by omega, hj2⟩, by simp only; omega⟩
        simp only [go_sem, Nat.reduceAdd, Nat.reduceEqDiff, Nat.reduceLT, reduceIte, reduceCtorEq, Nat.reduceBEq, Int.reduceLT, Int.reduceToNat, Int.reducePow, Nat.reduceLeDiff, Int.reduceLE, Nat.reduceMul, Nat.reduceSub, slotsBy, boxesBy, tipsBy, rawAt, nm, AV.ren, AV.renL, AV.under, AV.underL, List.all_nil, List.all_cons, bne_self_eq_false, List.getD_cons_zero, List.getD_cons_succ, List.length_nil, List.length_cons, and_true, true_and, slotsSub]
    · subst heq
      rw [List.take_length] at hj
      simp only [dec_irr, go_sem, Nat.reduceAdd, Nat.reduceEqDiff, Nat.reduceLT, reduceIte, reduceCtorEq, Nat.reduceBEq, Int.reduceLT, Int.reduceToNat, Int.reducePow, Nat.reduceLeDiff, Int.reduceLE, Nat.reduceMul, Nat.reduceSub]
      exact ⟨.inr trivial, _, by simp only [resAV, resL, resOne, go_sem, Nat.reduceAdd, Nat.reduceEqDiff, Nat.reduceLT, reduceIte, reduceCtorEq, Nat.reduceBEq, Int.reduceLT, Int.reduceToNat, Int.reducePow, Nat.reduceLeDiff, Int.reduceLE, Nat.reduceMul, Nat.reduceSub], hK _ _ _ hj⟩
end Go.Proofs.Yteekelelcbfekaa

/-! ## SafB -/

namespace Go.Proofs.Yteekelelcbfekaa
open Go Go.Ab
def as32_0 : ACode :=
  (.reg [⟨(.some 5), (.alc 35 [(.int .i32 0), (.int .i64 0), (.int .i64 0)]), .none⟩, ⟨.none, (.st 3 (.t 5) (.t 7)), .none⟩])
def bd32_0 : ACode :=
  (.block 1 (.reg [⟨(.some 8), (.ld .none (.t 2)), .none⟩, ⟨(.some 9), (.ld (.some 3) (.t 5)), .none⟩, ⟨(.some 10), (.bs 35 3 [(.t 9)]), .none⟩, ⟨(.some 11), (.app 35 24 (.t 8) (.t 10)), .none⟩, ⟨.none,
  (.st 1 (.t 2) (.t 11)), .none⟩]))
theorem was32_0 (F : Nat) (Q : Exit → State → Prop) (s : State) : awp Try.prog F as32_0 Q s = awp Try.prog F ((.reg [⟨(.some 5), (.alc 35 [(.int .i32 0), (.int .i64 0), (.int .i64 0)]), .none⟩, ⟨.none, (.st 3 (.t 5) (.t 7)), .none⟩])) Q s := rfl
attribute [go_sem] was32_0
theorem wbd32_0 (F : Nat) (Q : Exit → State → Prop) (s : State) : awp Try.prog F bd32_0 Q s = awp Try.prog F ((.block 1 (.reg [⟨(.some 8), (.ld .none (.t 2)), .none⟩, ⟨(.some 9), (.ld (.some 3) (.t 5)), .none⟩, ⟨(.some 10), (.bs 35 3 [(.t 9)]), .none⟩, ⟨(.some 11), (.app 35 24 (.t 8) (.t 10)), .none⟩, ⟨.none,
  (.st 1 (.t 2) (.t 11)), .none⟩]))) Q s := rfl
attribute [go_sem] wbd32_0
def a32 : ACode :=
  (.seq (.reg [⟨(.some 2), (.box 23 (.t 0)), .none⟩, ⟨(.some 4), (.mv (.k (.slice .none 0 0))), .none⟩]) (.seq (.seq (.reg [⟨(.some 6), (.mv (.t 1)), .none⟩]) (.block 0 (.rfn (.t 6) 13 [7] as32_0
  bd32_0))) (.seq (.reg [⟨(.some 12), (.ld .none (.t 2)), .none⟩, ⟨(.some 4), (.mv (.t 12)), .none⟩]) .ret)))
theorem c32 : Try.f32.body.bind (cCode Try.prog 13) = some a32 := by kernel_rfl
theorem r32 : Try.f32.results.toList = [(.tmp 4)] := by kernel_rfl
theorem n32 : Try.f32.ntmps = 13 := by kernel_rfl
theorem e32 : Enters Try.prog 32 := enters_of Try.func32 (by kernel_rfl) (by kernel_rfl)
def a19 : ACode :=
  (.seq (.reg [⟨(.some 2), (.mv (.k (.slice .none 0 0))), .none⟩]) (.seq (.reg [⟨(.some 3), (.mv (.t 0)), .none⟩, ⟨(.some 4), (.call (.f 32) [(.k (.slice .none 0 0)), (.t 3)]), .none⟩, ⟨(.some 2), (.mv
  (.t 4)), .none⟩]) .ret))
theorem c19 : Try.f19.body.bind (cCode Try.prog 5) = some a19 := by kernel_rfl
theorem r19 : Try.f19.results.toList = [(.tmp 2)] := by kernel_rfl
theorem n19 : Try.f19.ntmps = 5 := by kernel_rfl
theorem e19 : Enters Try.prog 19 := enters_of Try.func19 (by kernel_rfl) (by kernel_rfl)
def a20 : ACode :=
  (.seq (.reg [⟨(.some 1), (.box 9 (.t 0)), .none⟩, ⟨(.some 2), (.mv (.k .nilFunc)), .none⟩]) (.seq (.reg [⟨(.some 3), (.mkf (.func 33) [] [(.t 1)]), .none⟩, ⟨(.some 2), (.mv (.t 3)), .none⟩]) .ret))
theorem c20 : Try.f20.body.bind (cCode Try.prog 4) = some a20 := by kernel_rfl
theorem r20 : Try.f20.results.toList = [(.tmp 2)] := by kernel_rfl
theorem n20 : Try.f20.ntmps = 4 := by kernel_rfl
theorem e20 : Enters Try.prog 20 := enters_of Try.func20 (by kernel_rfl) (by kernel_rfl)
def a33 : ACode :=
  (.seq (.reg [⟨(.some 3), (.mv (.k (.int .i64 0))), .none⟩]) (.block 0 (.loop (.seq (.seq (.reg [⟨(.some 5), (.mv (.t 3)), .none⟩, ⟨(.some 6), (.ld .none (.t 1)), .none⟩, ⟨(.some 7), (.lenS (.t 6)),
  .none⟩, ⟨(.some 8), (.bin .lss (.t 5) (.t 7)), .none⟩]) (.cond (.t 8) .skip (.exit 0))) (.block 1 (.seq (.seq (.reg [⟨(.some 9), (.ld .none (.t 1)), .none⟩, ⟨(.some 10), (.mv (.t 3)), .none⟩, ⟨(.some
  11), (.slS (.t 9) (.some (.t 10)) .none), .none⟩, ⟨(.some 12), (.call (.f 34) [(.t 11)]), .none⟩, ⟨(.some 13), (.bin .mul (.k (.int .i64 3)) (.t 12)), .none⟩, ⟨(.some 4), (.mv (.t 13)), .none⟩]) (.seq
  (.reg [⟨(.some 14), (.mv (.t 4)), .none⟩, ⟨(.some 15), (.bin .gtr (.t 14) (.k (.int .i64 0))), .none⟩]) (.cond (.t 15) (.seq (.seq (.reg [⟨(.some 16), (.ld .none (.t 1)), .none⟩, ⟨(.some 17), (.mv (.t
  3)), .none⟩, ⟨(.some 18), (.mv (.t 3)), .none⟩, ⟨(.some 19), (.mv (.t 4)), .none⟩, ⟨(.some 20), (.bin .add (.t 18) (.t 19)), .none⟩, ⟨(.some 21), (.slS (.t 16) (.some (.t 17)) (.some (.t 20))),
  .none⟩, ⟨(.some 22), (.mv (.t 3)), .none⟩, ⟨(.some 23), (.mv (.t 0)), .none⟩, ⟨(.some 24), (.call (.f 35) [(.t 21), (.t 22), (.t 23)]), .none⟩, ⟨(.some 25), (.not (.t 24)), .none⟩]) (.cond (.t 25)
  .ret .skip)) (.seq (.reg [⟨(.some 26), (.mv (.t 3)), .none⟩, ⟨(.some 27), (.mv (.t 4)), .none⟩, ⟨(.some 28), (.bin .add (.t 26) (.t 27)), .none⟩, ⟨(.some 3), (.mv (.t 28)), .none⟩]) (.exit 1)))
  .skip))) (.seq (.seq (.reg [⟨(.some 29), (.ld .none (.t 1)), .none⟩, ⟨(.some 30), (.mv (.t 3)), .none⟩, ⟨(.some 31), (.mv (.t 3)), .none⟩, ⟨(.some 32), (.bin .add (.t 31) (.k (.int .i64 1))), .none⟩,
  ⟨(.some 33), (.slS (.t 29) (.some (.t 30)) (.some (.t 32))), .none⟩, ⟨(.some 34), (.mv (.t 3)), .none⟩, ⟨(.some 35), (.mv (.t 0)), .none⟩, ⟨(.some 36), (.call (.f 36) [(.t 33), (.t 34), (.t 35)]),
  .none⟩, ⟨(.some 37), (.not (.t 36)), .none⟩]) (.cond (.t 37) .ret .skip)) (.reg [⟨(.some 38), (.mv (.t 3)), .none⟩, ⟨(.some 39), (.bin .add (.t 38) (.k (.int .i64 1))), .none⟩, ⟨(.some 3), (.mv (.t
  39)), .none⟩]))))))))
theorem c33 : Try.f33.body.bind (cCode Try.prog 40) = some a33 := by kernel_rfl
theorem r33 : Try.f33.results.toList = [] := by kernel_rfl
theorem n33 : Try.f33.ntmps = 40 := by kernel_rfl
theorem e33 : Enters Try.prog 33 := enters_of Try.func33 (by kernel_rfl) (by kernel_rfl)
def a7 : ACode :=
  (.seq (.reg [⟨(.some 2), (.mv (.k (.slice .none 0 0))), .none⟩]) (.seq (.reg [⟨(.some 3), (.mv (.t 0)), .none⟩, ⟨(.some 4), (.call (.f 20) [(.t 3)]), .none⟩, ⟨(.some 5), (.call (.f 19) [(.t 4)]),
  .none⟩, ⟨(.some 2), (.mv (.t 5)), .none⟩]) .ret))
theorem c7 : Try.f7.body.bind (cCode Try.prog 6) = some a7 := by kernel_rfl
theorem r7 : Try.f7.results.toList = [(.tmp 2)] := by kernel_rfl
theorem n7 : Try.f7.ntmps = 6 := by kernel_rfl
theorem e7 : Enters Try.prog 7 := enters_of Try.func7 (by kernel_rfl) (by kernel_rfl)

/-- The loop over the codes, as a thing in a box. -/
def shL : LInfo := ⟨13, [2], [7], as32_0, bd32_0, .ready, none⟩
/-- The boxes where codes are taken. -/
def shB (b : List Nat) (acc : List T3) (t : Nat) : List (Nat × List AV) := [(2, [.ob (.loop shL) [.bp 1 0]]), (1, [.sl 35 (codesT acc) (some t)]), (0, [.lit (.string (txt b))])]
def shJ (b : List Nat) (acc : List T3) (bx : List (Nat × List AV)) (tp : List (Nat × TypeId)) (nx : Nat) : Prop :=
  ∃ t, (2 < t ∧ t < nx) ∧ bx = shB b acc t ∧ tp = [(t, 35)]

theorem codesT_snoc (acc : List T3) (c : T3) : codesT acc ++ [[.int .i32 ((c.1 : Nat) : Int), .int .i64 ((c.2.1 : Nat) : Int), .int .i64 ((c.2.2 : Nat) : Int)]] = codesT (acc ++ [c]) := by simp [codesT]

set_option maxRecDepth 10000 in
theorem sh_takes (b : List Nat) : Takes 2 1099511627776 (shJ b) := by
  refine ⟨fun acc bx tp nx nx' h hx => ?_, fun acc c bx tp nx K hN hJ hK => ?_⟩
  · obtain ⟨t, h1, h2, h3⟩ := h
    exact ⟨t, ⟨h1.1, by omega⟩, h2, h3⟩
  · obtain ⟨t, ⟨h0, h1⟩, rfl, rfl⟩ := hJ
    refine YieldOK.post ?_
    refine yield_awp (i := shL) (cells := [.bp 1 0]) (by simp only [shB, go_sem, Nat.reduceAdd, Nat.reduceEqDiff, Nat.reduceLT, reduceIte, reduceCtorEq, Nat.reduceBEq, Int.reduceLT, Int.reduceToNat, Int.reducePow, Nat.reduceLeDiff, Int.reduceLE, Nat.reduceMul, Nat.reduceSub]) rfl rfl ?_
    have e1 : (nx + 1 = t) = False := eq_false (by omega)
    have e2 : (nx = 2) = False := eq_false (by omega)
    have e3 : (nx = 1) = False := eq_false (by omega)
    have e4 : (nx = 0) = False := eq_false (by omega)
    simp only [shL, shB, codeA, go_sem, Nat.reduceAdd, Nat.reduceEqDiff, Nat.reduceLT, reduceIte, reduceCtorEq, Nat.reduceBEq, Int.reduceLT, Int.reduceToNat, Int.reducePow, Nat.reduceLeDiff, Int.reduceLE, Nat.reduceMul, Nat.reduceSub, e1, e2, e3, e4, allOne, AV.one, Value.oneCell', Int.natCast_zero, Nat.le_refl]
    refine ⟨⟨by rw [codesT_length]; omega, by rw [codesT_length]; omega⟩, shB b (acc ++ [c]) (nx + 1 + 1), [(nx + 1 + 1, 35)], ?_, .cons_cons _ (.cons _ .slnil), hK _ _ _ ⟨nx + 1 + 1, ⟨by omega, by omega⟩, rfl, rfl⟩⟩
    rw [codesT_snoc]
    exact .cons _ (List.Sublist.refl _)

set_option maxRecDepth 10000 in
theorem show_pure (b : List Nat) (hb : ∀ n ∈ b, n ≤ 255) (hl : b.length ≤ 1000000) : Pure Try.prog 7 [.lit (.string (txt b))] [35] (.sl 35 (codesT (showT 0 b)) (some 0)) := by
  refine pure1 Try.func7 c7 n7 e7 r7 (by simp) ?_
  simp only [a7, astart, argSlots, go_sem, Nat.reduceAdd, Nat.reduceEqDiff, Nat.reduceLT, reduceIte, reduceCtorEq, Nat.reduceBEq, Int.reduceLT, Int.reduceToNat, Int.reducePow, Nat.reduceLeDiff, Int.reduceLE, Nat.reduceMul, Nat.reduceSub]
  refine callGo_walk Try.func20 c20 n20 e20 r20 (by simp) ?_
  simp only [a20, astart, argSlots, go_sem, Nat.reduceAdd, Nat.reduceEqDiff, Nat.reduceLT, reduceIte, reduceCtorEq, Nat.reduceBEq, Int.reduceLT, Int.reduceToNat, Int.reducePow, Nat.reduceLeDiff, Int.reduceLE, Nat.reduceMul, Nat.reduceSub, allOne, AV.one]
  refine ⟨by simp, _, rfl, ?_⟩
  refine callGo_walk Try.func19 c19 n19 e19 r19 (by simp) ?_
  simp only [a19, astart, argSlots, go_sem, Nat.reduceAdd, Nat.reduceEqDiff, Nat.reduceLT, reduceIte, reduceCtorEq, Nat.reduceBEq, Int.reduceLT, Int.reduceToNat, Int.reducePow, Nat.reduceLeDiff, Int.reduceLE, Nat.reduceMul, Nat.reduceSub, allOne, AV.one]
  refine callGo_walk Try.func32 c32 n32 e32 r32 (by simp) ?_
  simp only [a32, astart, argSlots, go_sem, Nat.reduceAdd, Nat.reduceEqDiff, Nat.reduceLT, reduceIte, reduceCtorEq, Nat.reduceBEq, Int.reduceLT, Int.reduceToNat, Int.reducePow, Nat.reduceLeDiff, Int.reduceLE, Nat.reduceMul, Nat.reduceSub, allOne, AV.one, Value.oneCell']
  refine rfnGo_call [2] _ rfl ?_
  refine callOK_walk Try.func33 c33 n33 e33 r33 (by simp) ?_
  simp only [a33, astart, argSlots, go_sem, Nat.reduceAdd, Nat.reduceEqDiff, Nat.reduceLT, reduceIte, reduceCtorEq, Nat.reduceBEq, Int.reduceLT, Int.reduceToNat, Int.reducePow, Nat.reduceLeDiff, Int.reduceLE, Nat.reduceMul, Nat.reduceSub]
  refine loop_by (α := Nat × List T3 × Nat × Nat) (fun x => ⟨[(0, some (.rf .yield 2)), (1, some (.bp 0 0)), (3, some (.lit (.int .i64 ((x.1 : Nat) : Int))))], shB b x.2.1 x.2.2.1, [(x.2.2.1, 35)], x.2.2.2⟩)
    (fun x => x.1 ≤ b.length ∧ x.2.1.length ≤ x.1 ∧ showT 0 b = x.2.1 ++ showT x.1 (b.drop x.1) ∧ 2 < x.2.2.1 ∧ x.2.2.1 < x.2.2.2) (fun x => b.length - x.1) (fun x y h => by
      have := congrArg (cnt 3) h
      simp [cnt, Ab.look] at this
      rw [this]) (0, [], 3, 4) ((weak_nil_box 1 0 35 (cells := [.lit (.slice none 0 0)]) (by simp only [go_sem, Nat.reduceAdd, Nat.reduceEqDiff, Nat.reduceLT, reduceIte, reduceCtorEq, Nat.reduceBEq, Int.reduceLT, Int.reduceToNat, Int.reducePow, Nat.reduceLeDiff, Int.reduceLE, Nat.reduceMul, Nat.reduceSub]) rfl).trans (weak_by [0, 1, 2, 3] (by simp) rfl ?_ ?_ ?_ ?_)) ⟨by simp, by simp, rfl, by simp, by simp⟩ ?_
  · simp only [go_sem, Nat.reduceAdd, Nat.reduceEqDiff, Nat.reduceLT, reduceIte, reduceCtorEq, Nat.reduceBEq, Int.reduceLT, Int.reduceToNat, Int.reducePow, Nat.reduceLeDiff, Int.reduceLE, Nat.reduceMul, Nat.reduceSub, slotsBy, boxesBy, tipsBy, rawAt, nm, AV.ren, AV.renL, AV.under, AV.underL, List.all_nil, List.all_cons, bne_self_eq_false, List.getD_cons_zero, List.getD_cons_succ, List.length_nil, List.length_cons, and_true, true_and, Int.natCast_zero]
  · simp only [shB, shL, codesT, go_sem, Nat.reduceAdd, Nat.reduceEqDiff, Nat.reduceLT, reduceIte, reduceCtorEq, Nat.reduceBEq, Int.reduceLT, Int.reduceToNat, Int.reducePow, Nat.reduceLeDiff, Int.reduceLE, Nat.reduceMul, Nat.reduceSub, slotsBy, boxesBy, tipsBy, rawAt, nm, AV.ren, AV.renL, AV.under, AV.underL, List.all_nil, List.all_cons, bne_self_eq_false, List.getD_cons_zero, List.getD_cons_succ, List.length_nil, List.length_cons, and_true, true_and]
    simp
  · simp only [go_sem, Nat.reduceAdd, Nat.reduceEqDiff, Nat.reduceLT, reduceIte, reduceCtorEq, Nat.reduceBEq, Int.reduceLT, Int.reduceToNat, Int.reducePow, Nat.reduceLeDiff, Int.reduceLE, Nat.reduceMul, Nat.reduceSub, slotsBy, boxesBy, tipsBy, rawAt, nm, AV.ren, AV.renL, AV.under, AV.underL, List.all_nil, List.all_cons, bne_self_eq_false, List.getD_cons_zero, List.getD_cons_succ, List.length_nil, List.length_cons, and_true, true_and, beq_self_eq_true]
  · refine ⟨by simp, fun i hi => ?_⟩
    match i, hi with
    | 0, _ => rfl
    | 1, _ => rfl
    | 2, _ => rfl
  · rintro ⟨i, acc, t, nx⟩ ⟨hi, hlen, hshow, ht2, htn⟩
    simp only at hi hlen hshow ht2 htn
    simp only [shB, go_sem, Nat.reduceAdd, Nat.reduceEqDiff, Nat.reduceLT, reduceIte, reduceCtorEq, Nat.reduceBEq, Int.reduceLT, Int.reduceToNat, Int.reducePow, Nat.reduceLeDiff, Int.reduceLE, Nat.reduceMul, Nat.reduceSub]
    rcases Nat.lt_or_eq_of_le hi with hlt | heq
    · have hr : ∀ n ∈ b.drop i, n ≤ 255 := fun n hn => hb n (List.mem_of_mem_drop hn)
      have hin : (if i ≤ b.length ∧ b.length ≤ b.length then some (i, b.length) else none : Option (Nat × Nat)) = some (i, b.length) := if_pos ⟨hi, Nat.le_refl _⟩
      simp only [txt_size, dec_lt hlt, hin, txt_tail, go_sem, Nat.reduceAdd, Nat.reduceEqDiff, Nat.reduceLT, reduceIte, reduceCtorEq, Nat.reduceBEq, Int.reduceLT, Int.reduceToNat, Int.reducePow, Nat.reduceLeDiff, Int.reduceLE, Nat.reduceMul, Nat.reduceSub]
      refine callGo_pure (row_pure _ hr (by rw [List.length_drop]; omega)) (by rfl) ?_
      have hrow := rowN_le (b.drop i)
      rw [List.length_drop] at hrow
      have w1 : IntKind.i64.wrap (3 * ((rowN (b.drop i) : Nat) : Int)) = ((3 * rowN (b.drop i) : Nat) : Int) := by rw [wrap_i64 _ (by omega) (by omega)]; omega
      simp only [w1, go_sem, Nat.reduceAdd, Nat.reduceEqDiff, Nat.reduceLT, reduceIte, reduceCtorEq, Nat.reduceBEq, Int.reduceLT, Int.reduceToNat, Int.reducePow, Nat.reduceLeDiff, Int.reduceLE, Nat.reduceMul, Nat.reduceSub]
      cases hc : isC (b.drop i)
      · have hn0 := rowN_plain hc
        have a0 : decide (((3 * 0 : Nat) : Int) > 0) = false := by simp
        have h1 : IntKind.i64.wrap ((i : Int) + 1) = ((i + 1 : Nat) : Int) := by rw [wrap_i64 _ (by omega) (by omega)]; omega
        have hin1 : (if i ≤ i + 1 ∧ i + 1 ≤ b.length then some (i, i + 1) else none : Option (Nat × Nat)) = some (i, i + 1) := if_pos ⟨by omega, by omega⟩
        have hsl : (b.take (i + 1)).drop i = [b[i]] := by
          rw [List.take_succ_eq_append_getElem hlt, List.drop_append_of_le_length (by rw [List.length_take]; omega), List.drop_of_length_le (by rw [List.length_take]; omega)]; rfl
        rw [List.drop_eq_getElem_cons hlt] at hc hshow
        rw [showT_one hc] at hshow
        rw [hn0]
        simp only [a0, h1, txt_size, hin1, txt_slice, hsl, go_sem, Nat.reduceAdd, Nat.reduceEqDiff, Nat.reduceLT, reduceIte, reduceCtorEq, Nat.reduceBEq, Int.reduceLT, Int.reduceToNat, Int.reducePow, Nat.reduceLeDiff, Int.reduceLE, Nat.reduceMul, Nat.reduceSub]
        refine callGo_ok (each_ok (sh_takes b) _ _ (fun n hn => by simp at hn; subst hn; exact hb _ (List.getElem_mem hlt)) (by simp) (by omega) (acc := acc) (by simp only [List.length_cons, List.length_nil]; omega) ⟨t, ⟨ht2, htn⟩, rfl, rfl⟩ ?_)
        rintro bx2 tp2 nx2 ⟨t2, ⟨g1, g2⟩, rfl, rfl⟩
        simp only [Bool.not_true, h1, go_sem, Nat.reduceAdd, Nat.reduceEqDiff, Nat.reduceLT, reduceIte, reduceCtorEq, Nat.reduceBEq, Int.reduceLT, Int.reduceToNat, Int.reducePow, Nat.reduceLeDiff, Int.reduceLE, Nat.reduceMul, Nat.reduceSub]
        refine ⟨(i + 1, acc ++ eachT i [b[i]], t2, nx2), weak_forget ?_ (List.Sublist.refl _) (List.Sublist.refl _), ⟨by omega, by rw [List.length_append, eachT_length, List.length_cons, List.length_nil]; omega, by rw [hshow]; simp [eachT], g1, g2⟩, by simp only; omega⟩
        simp only [go_sem, Nat.reduceAdd, Nat.reduceEqDiff, Nat.reduceLT, reduceIte, reduceCtorEq, Nat.reduceBEq, Int.reduceLT, Int.reduceToNat, Int.reducePow, Nat.reduceLeDiff, Int.reduceLE, Nat.reduceMul, Nat.reduceSub, slotsBy, boxesBy, tipsBy, rawAt, nm, AV.ren, AV.renL, AV.under, AV.underL, List.all_nil, List.all_cons, bne_self_eq_false, List.getD_cons_zero, List.getD_cons_succ, List.length_nil, List.length_cons, and_true, true_and, slotsSub]
      · have hn0 := rowN_pos.2 hc
        have hlen2 := said_row_len i (b.drop i)
        have hdr := dec_row (b.drop i)
        rw [showT_row hc, List.drop_drop] at hshow
        have hsl0 : (b.take (i + 3 * rowN (b.drop i))).drop i = (b.drop i).take (3 * rowN (b.drop i)) := by rw [List.drop_take]; congr 1; omega
        have hr2 : ∀ n ∈ (b.drop i).take (3 * rowN (b.drop i)), n ≤ 255 := fun n hn => hr n (List.mem_of_mem_take hn)
        have hl2 : ((b.drop i).take (3 * rowN (b.drop i))).length = 3 * rowN (b.drop i) := by rw [List.length_take, List.length_drop]; omega
        generalize (b.drop i).take (3 * rowN (b.drop i)) = q at hlen2 hdr hshow hsl0 hr2 hl2
        generalize rowN (b.drop i) = n at hn0 hlen2 hdr hshow hsl0 hl2 hrow
        have a0 : decide (((3 * n : Nat) : Int) > 0) = true := by simp only [decide_eq_true_eq]; omega
        have h1 : IntKind.i64.wrap ((i : Int) + ((3 * n : Nat) : Int)) = ((i + 3 * n : Nat) : Int) := by rw [wrap_i64 _ (by omega) (by omega)]; omega
        have hin1 : (if i ≤ i + 3 * n ∧ i + 3 * n ≤ b.length then some (i, i + 3 * n) else none : Option (Nat × Nat)) = some (i, i + 3 * n) := if_pos ⟨by omega, by omega⟩
        simp only [a0, h1, txt_size, hin1, txt_slice, hsl0, go_sem, Nat.reduceAdd, Nat.reduceEqDiff, Nat.reduceLT, reduceIte, reduceCtorEq, Nat.reduceBEq, Int.reduceLT, Int.reduceToNat, Int.reducePow, Nat.reduceLeDiff, Int.reduceLE, Nat.reduceMul, Nat.reduceSub]
        refine callGo_ok (said_ok (sh_takes b) _ _ hr2 (by omega) (by omega) (by omega) (acc := acc) (by omega) ⟨t, ⟨ht2, htn⟩, rfl, rfl⟩ ?_)
        rintro bx2 tp2 nx2 ⟨t2, ⟨g1, g2⟩, rfl, rfl⟩
        simp only [Bool.not_true, h1, go_sem, Nat.reduceAdd, Nat.reduceEqDiff, Nat.reduceLT, reduceIte, reduceCtorEq, Nat.reduceBEq, Int.reduceLT, Int.reduceToNat, Int.reducePow, Nat.reduceLeDiff, Int.reduceLE, Nat.reduceMul, Nat.reduceSub]
        refine ⟨(i + 3 * n, acc ++ saidT i q, t2, nx2), weak_forget ?_ (List.Sublist.refl _) (List.Sublist.refl _), ⟨by omega, by rw [List.length_append]; omega, by rw [hshow]; simp, g1, g2⟩, by simp only; omega⟩
        simp only [go_sem, Nat.reduceAdd, Nat.reduceEqDiff, Nat.reduceLT, reduceIte, reduceCtorEq, Nat.reduceBEq, Int.reduceLT, Int.reduceToNat, Int.reducePow, Nat.reduceLeDiff, Int.reduceLE, Nat.reduceMul, Nat.reduceSub, slotsBy, boxesBy, tipsBy, rawAt, nm, AV.ren, AV.renL, AV.under, AV.underL, List.all_nil, List.all_cons, bne_self_eq_false, List.getD_cons_zero, List.getD_cons_succ, List.length_nil, List.length_cons, and_true, true_and, slotsSub]
    · subst heq
      rw [List.drop_length, showT_nil, List.append_nil] at hshow
      rw [hshow]
      simp only [txt_size, dec_irr, go_sem, Nat.reduceAdd, Nat.reduceEqDiff, Nat.reduceLT, reduceIte, reduceCtorEq, Nat.reduceBEq, Int.reduceLT, Int.reduceToNat, Int.reducePow, Nat.reduceLeDiff, Int.reduceLE, Nat.reduceMul, Nat.reduceSub]
      refine ⟨by simp, _, rfl, ?_⟩
      simp only [rfnPost, shL, go_sem, Nat.reduceAdd, Nat.reduceEqDiff, Nat.reduceLT, reduceIte, reduceCtorEq, Nat.reduceBEq, Int.reduceLT, Int.reduceToNat, Int.reducePow, Nat.reduceLeDiff, Int.reduceLE, Nat.reduceMul, Nat.reduceSub]
      refine ⟨.inr trivial, _, by simp only [resAV, resL, resOne, go_sem, Nat.reduceAdd, Nat.reduceEqDiff, Nat.reduceLT, reduceIte, reduceCtorEq, Nat.reduceBEq, Int.reduceLT, Int.reduceToNat, Int.reducePow, Nat.reduceLeDiff, Int.reduceLE, Nat.reduceMul, Nat.reduceSub]; rfl, .inr trivial, _, by simp only [resAV, resL, resOne, go_sem, Nat.reduceAdd, Nat.reduceEqDiff, Nat.reduceLT, reduceIte, reduceCtorEq, Nat.reduceBEq, Int.reduceLT, Int.reduceToNat, Int.reducePow, Nat.reduceLeDiff, Int.reduceLE, Nat.reduceMul, Nat.reduceSub]; rfl, ?_⟩
      exact ⟨.inr rfl, t, by simp only [resAV, resL, resOne, go_sem, Nat.reduceAdd, Nat.reduceEqDiff, Nat.reduceLT, reduceIte, reduceCtorEq, Nat.reduceBEq, Int.reduceLT, Int.reduceToNat, Int.reducePow, Nat.reduceLeDiff, Int.reduceLE, Nat.reduceMul, Nat.reduceSub], by simp [go_sem, Nat.reduceAdd, Nat.reduceEqDiff, Nat.reduceLT, reduceIte, reduceCtorEq, Nat.reduceBEq, Int.reduceLT, Int.reduceToNat, Int.reducePow, Nat.reduceLeDiff, Int.reduceLE, Nat.reduceMul, Nat.reduceSub]⟩
end Go.Proofs.Yteekelelcbfekaa

/-! ## SafC -/

namespace Go.Proofs.Yteekelelcbfekaa
open Go Go.Ab
def a13 : ACode :=
  (.seq (.reg [⟨(.some 2), (.mv (.k (.slice .none 0 0))), .none⟩]) (.seq (.reg [⟨(.some 3), (.mv (.k (.slice .none 0 0))), .none⟩]) (.seq (.seq (.reg [⟨(.some 6), (.mv (.t 0)), .none⟩, ⟨(.some 7), (.len
  (.t 6)), .none⟩, ⟨(.some 8), (.mv (.k (.int .i64 0))), .none⟩]) (.block 0 (.loop (.seq (.reg [⟨(.some 9), (.bin .lss (.t 8) (.t 7)), .none⟩]) (.seq (.cond (.t 9) .skip (.exit 0)) (.seq (.block 1 (.seq
  (.reg [⟨(.some 10), (.ia 35 (.t 6) (.t 8)), .none⟩, ⟨(.some 11), (.ld (.some 3) (.t 10)), .none⟩, ⟨(.some 5), (.alc 35 [(.int .i32 0), (.int .i64 0), (.int .i64 0)]), .none⟩, ⟨.none, (.st 3 (.t 5) (.t
  11)), .none⟩]) (.reg [⟨(.some 12), (.mv (.t 3)), .none⟩, ⟨(.some 13), (.fa 0 (.t 5)), .none⟩, ⟨(.some 14), (.ld .none (.t 13)), .none⟩, ⟨(.some 15), (.bs 21 1 [(.t 14)]), .none⟩, ⟨(.some 16), (.app 21
  4 (.t 12) (.t 15)), .none⟩, ⟨(.some 3), (.mv (.t 16)), .none⟩]))) (.reg [⟨(.some 17), (.bin .add (.t 8) (.k (.int .i64 1))), .none⟩, ⟨(.some 8), (.mv (.t 17)), .none⟩]))))))) (.seq (.reg [⟨(.some 18),
  (.mv (.t 3)), .none⟩, ⟨(.some 2), (.mv (.t 18)), .none⟩]) .ret))))
theorem c13 : Try.f13.body.bind (cCode Try.prog 19) = some a13 := by kernel_rfl
theorem r13 : Try.f13.results.toList = [(.tmp 2)] := by kernel_rfl
theorem n13 : Try.f13.ntmps = 19 := by kernel_rfl
theorem e13 : Enters Try.prog 13 := enters_of Try.func13 (by kernel_rfl) (by kernel_rfl)
def a14 : ACode :=
  (.seq (.reg [⟨(.some 2), (.mv (.k (.slice .none 0 0))), .none⟩]) (.seq (.reg [⟨(.some 3), (.mv (.k (.slice .none 0 0))), .none⟩]) (.seq (.seq (.reg [⟨(.some 4), (.mv (.k (.int .i64 0))), .none⟩])
  (.block 0 (.loop (.seq (.seq (.reg [⟨(.some 5), (.mv (.t 4)), .none⟩, ⟨(.some 6), (.mv (.t 0)), .none⟩, ⟨(.some 7), (.len (.t 6)), .none⟩, ⟨(.some 8), (.bin .lss (.t 5) (.t 7)), .none⟩]) (.cond (.t 8)
  .skip (.exit 0))) (.seq (.block 1 (.reg [⟨(.some 11), (.mv (.t 3)), .none⟩, ⟨(.some 12), (.mv (.t 0)), .none⟩, ⟨(.some 13), (.mv (.t 4)), .none⟩, ⟨(.some 14), (.ia 35 (.t 12) (.t 13)), .none⟩, ⟨(.some
  15), (.fa 0 (.t 14)), .none⟩, ⟨(.some 16), (.ld .none (.t 15)), .none⟩, ⟨(.some 17), (.bs 21 1 [(.t 16)]), .none⟩, ⟨(.some 18), (.app 21 4 (.t 11) (.t 17)), .none⟩, ⟨(.some 3), (.mv (.t 18)),
  .none⟩])) (.reg [⟨(.some 9), (.mv (.t 4)), .none⟩, ⟨(.some 10), (.bin .add (.t 9) (.k (.int .i64 1))), .none⟩, ⟨(.some 4), (.mv (.t 10)), .none⟩])))))) (.seq (.reg [⟨(.some 19), (.mv (.t 3)), .none⟩,
  ⟨(.some 2), (.mv (.t 19)), .none⟩]) .ret))))
theorem c14 : Try.f14.body.bind (cCode Try.prog 20) = some a14 := by kernel_rfl
theorem r14 : Try.f14.results.toList = [(.tmp 2)] := by kernel_rfl
theorem n14 : Try.f14.ntmps = 20 := by kernel_rfl
theorem e14 : Enters Try.prog 14 := enters_of Try.func14 (by kernel_rfl) (by kernel_rfl)

/-- The code points of codes. -/
def rOf (l : List T3) : List Int := l.map fun x => ((x.1 : Nat) : Int)
theorem rOf_take {l : List T3} {i : Nat} (h : i < l.length) : rOf (l.take (i + 1)) = rOf (l.take i) ++ [((l[i].1 : Nat) : Int)] := by
  rw [List.take_succ_eq_append_getElem h, rOf, List.map_append]; rfl

set_option maxRecDepth 10000 in
theorem safeRunes_pure (l : List T3) (hl : l.length ≤ 1000000000) : Pure Try.prog 13 [.sl 35 (codesT l) none] [21] (.sl 21 (runes (rOf l)) (some 0)) := by
  refine pure1 Try.func13 c13 n13 e13 r13 (by simp) ?_
  simp only [a13, astart, argSlots, go_sem, Nat.reduceAdd, Nat.reduceEqDiff, Nat.reduceLT, reduceIte, reduceCtorEq, Nat.reduceBEq, Int.reduceLT, Int.reduceToNat, Int.reducePow, Nat.reduceLeDiff, Int.reduceLE, Nat.reduceMul, Nat.reduceSub, codesT_length]
  refine loop_to l.length (fun i => ⟨[(3, some (.sl 21 (runes (rOf (l.take i))) (some 0))), (6, some (.sl 35 (codesT l) none)), (7, some (.lit (.int .i64 (l.length : Int)))), (8, some (.lit (.int .i64 (i : Int))))], [], [(0, 21)], 1⟩)
    (fun _ => True) ((weak_nil 3 21 (by simp only [go_sem, Nat.reduceAdd, Nat.reduceEqDiff, Nat.reduceLT, reduceIte, reduceCtorEq, Nat.reduceBEq, Int.reduceLT, Int.reduceToNat, Int.reducePow, Nat.reduceLeDiff, Int.reduceLE, Nat.reduceMul, Nat.reduceSub])).trans (weak_by [0] (by simp) rfl ?_ trivial ?_ (by simp))) trivial ?_ ?_
  · simp only [go_sem, Nat.reduceAdd, Nat.reduceEqDiff, Nat.reduceLT, reduceIte, reduceCtorEq, Nat.reduceBEq, Int.reduceLT, Int.reduceToNat, Int.reducePow, Nat.reduceLeDiff, Int.reduceLE, Nat.reduceMul, Nat.reduceSub, slotsBy, boxesBy, tipsBy, rawAt, nm, AV.ren, AV.renL, AV.under, AV.underL, List.all_nil, List.all_cons, bne_self_eq_false, List.getD_cons_zero, List.getD_cons_succ, List.length_nil, List.length_cons, and_true, true_and, List.take_zero, rOf, runes, List.map_nil, Int.natCast_zero]
  · simp only [go_sem, Nat.reduceAdd, Nat.reduceEqDiff, Nat.reduceLT, reduceIte, reduceCtorEq, Nat.reduceBEq, Int.reduceLT, Int.reduceToNat, Int.reducePow, Nat.reduceLeDiff, Int.reduceLE, Nat.reduceMul, Nat.reduceSub, slotsBy, boxesBy, tipsBy, rawAt, nm, AV.ren, AV.renL, AV.under, AV.underL, List.all_nil, List.all_cons, bne_self_eq_false, List.getD_cons_zero, List.getD_cons_succ, List.length_nil, List.length_cons, and_true, true_and, beq_self_eq_true]
  · intro i hi _
    have h1 : IntKind.i64.wrap ((i : Int) + 1) = ((i + 1 : Nat) : Int) := by rw [wrap_i64 _ (by omega) (by omega)]; omega
    have hlen : (rOf (l.take i)).length ≤ i := by simp only [rOf, List.length_map, List.length_take]; omega
    simp only [dec_lt hi, codesT_get l i hi, go_sem, Nat.reduceAdd, Nat.reduceEqDiff, Nat.reduceLT, reduceIte, reduceCtorEq, Nat.reduceBEq, Int.reduceLT, Int.reduceToNat, Int.reducePow, Nat.reduceLeDiff, Int.reduceLE, Nat.reduceMul, Nat.reduceSub, allOne, AV.one, Value.oneCell', Int.natCast_zero, Nat.le_refl, h1]
    refine ⟨⟨by omega, by omega⟩, weak_by [3] (by simp) rfl ?_ trivial ?_ (by simp)⟩
    · simp only [go_sem, Nat.reduceAdd, Nat.reduceEqDiff, Nat.reduceLT, reduceIte, reduceCtorEq, Nat.reduceBEq, Int.reduceLT, Int.reduceToNat, Int.reducePow, Nat.reduceLeDiff, Int.reduceLE, Nat.reduceMul, Nat.reduceSub, slotsBy, boxesBy, tipsBy, rawAt, nm, AV.ren, AV.renL, AV.under, AV.underL, List.all_nil, List.all_cons, bne_self_eq_false, List.getD_cons_zero, List.getD_cons_succ, List.length_nil, List.length_cons, and_true, true_and, rOf_take hi, runes_append]
      rfl
    · simp only [go_sem, Nat.reduceAdd, Nat.reduceEqDiff, Nat.reduceLT, reduceIte, reduceCtorEq, Nat.reduceBEq, Int.reduceLT, Int.reduceToNat, Int.reducePow, Nat.reduceLeDiff, Int.reduceLE, Nat.reduceMul, Nat.reduceSub, slotsBy, boxesBy, tipsBy, rawAt, nm, AV.ren, AV.renL, AV.under, AV.underL, List.all_nil, List.all_cons, bne_self_eq_false, List.getD_cons_zero, List.getD_cons_succ, List.length_nil, List.length_cons, and_true, true_and, beq_self_eq_true]
  · intro _
    rw [List.take_length]
    simp only [dec_irr, go_sem, Nat.reduceAdd, Nat.reduceEqDiff, Nat.reduceLT, reduceIte, reduceCtorEq, Nat.reduceBEq, Int.reduceLT, Int.reduceToNat, Int.reducePow, Nat.reduceLeDiff, Int.reduceLE, Nat.reduceMul, Nat.reduceSub]
    exact ⟨.inr rfl, 0, by simp only [resAV, resL, resOne, go_sem, Nat.reduceAdd, Nat.reduceEqDiff, Nat.reduceLT, reduceIte, reduceCtorEq, Nat.reduceBEq, Int.reduceLT, Int.reduceToNat, Int.reducePow, Nat.reduceLeDiff, Int.reduceLE, Nat.reduceMul, Nat.reduceSub], by simp [go_sem, Nat.reduceAdd, Nat.reduceEqDiff, Nat.reduceLT, reduceIte, reduceCtorEq, Nat.reduceBEq, Int.reduceLT, Int.reduceToNat, Int.reducePow, Nat.reduceLeDiff, Int.reduceLE, Nat.reduceMul, Nat.reduceSub]⟩

set_option maxRecDepth 10000 in
theorem refRunes_pure (l : List T3) (hl : l.length ≤ 1000000000) : Pure Try.prog 14 [.sl 35 (codesT l) none] [21] (.sl 21 (runes (rOf l)) (some 0)) := by
  refine pure1 Try.func14 c14 n14 e14 r14 (by simp) ?_
  simp only [a14, astart, argSlots, go_sem, Nat.reduceAdd, Nat.reduceEqDiff, Nat.reduceLT, reduceIte, reduceCtorEq, Nat.reduceBEq, Int.reduceLT, Int.reduceToNat, Int.reducePow, Nat.reduceLeDiff, Int.reduceLE, Nat.reduceMul, Nat.reduceSub, codesT_length]
  refine loop_to l.length (fun i => ⟨[(0, some (.sl 35 (codesT l) none)), (3, some (.sl 21 (runes (rOf (l.take i))) (some 0))), (4, some (.lit (.int .i64 (i : Int))))], [], [(0, 21)], 1⟩)
    (fun _ => True) ((weak_nil 3 21 (by simp only [go_sem, Nat.reduceAdd, Nat.reduceEqDiff, Nat.reduceLT, reduceIte, reduceCtorEq, Nat.reduceBEq, Int.reduceLT, Int.reduceToNat, Int.reducePow, Nat.reduceLeDiff, Int.reduceLE, Nat.reduceMul, Nat.reduceSub])).trans (weak_by [0] (by simp) rfl ?_ trivial ?_ (by simp))) trivial ?_ ?_
  · simp only [go_sem, Nat.reduceAdd, Nat.reduceEqDiff, Nat.reduceLT, reduceIte, reduceCtorEq, Nat.reduceBEq, Int.reduceLT, Int.reduceToNat, Int.reducePow, Nat.reduceLeDiff, Int.reduceLE, Nat.reduceMul, Nat.reduceSub, slotsBy, boxesBy, tipsBy, rawAt, nm, AV.ren, AV.renL, AV.under, AV.underL, List.all_nil, List.all_cons, bne_self_eq_false, List.getD_cons_zero, List.getD_cons_succ, List.length_nil, List.length_cons, and_true, true_and, List.take_zero, rOf, runes, List.map_nil, Int.natCast_zero]
  · simp only [go_sem, Nat.reduceAdd, Nat.reduceEqDiff, Nat.reduceLT, reduceIte, reduceCtorEq, Nat.reduceBEq, Int.reduceLT, Int.reduceToNat, Int.reducePow, Nat.reduceLeDiff, Int.reduceLE, Nat.reduceMul, Nat.reduceSub, slotsBy, boxesBy, tipsBy, rawAt, nm, AV.ren, AV.renL, AV.under, AV.underL, List.all_nil, List.all_cons, bne_self_eq_false, List.getD_cons_zero, List.getD_cons_succ, List.length_nil, List.length_cons, and_true, true_and, beq_self_eq_true]
  · intro i hi _
    have h1 : IntKind.i64.wrap ((i : Int) + 1) = ((i + 1 : Nat) : Int) := by rw [wrap_i64 _ (by omega) (by omega)]; omega
    have hlen : (rOf (l.take i)).length ≤ i := by simp only [rOf, List.length_map, List.length_take]; omega
    simp only [codesT_length, dec_lt hi, codesT_get l i hi, go_sem, Nat.reduceAdd, Nat.reduceEqDiff, Nat.reduceLT, reduceIte, reduceCtorEq, Nat.reduceBEq, Int.reduceLT, Int.reduceToNat, Int.reducePow, Nat.reduceLeDiff, Int.reduceLE, Nat.reduceMul, Nat.reduceSub, allOne, AV.one, Value.oneCell', Int.natCast_zero, Nat.le_refl, h1]
    refine ⟨⟨by omega, by omega⟩, weak_by [2] (by simp) rfl ?_ trivial ?_ (by simp)⟩
    · simp only [go_sem, Nat.reduceAdd, Nat.reduceEqDiff, Nat.reduceLT, reduceIte, reduceCtorEq, Nat.reduceBEq, Int.reduceLT, Int.reduceToNat, Int.reducePow, Nat.reduceLeDiff, Int.reduceLE, Nat.reduceMul, Nat.reduceSub, slotsBy, boxesBy, tipsBy, rawAt, nm, AV.ren, AV.renL, AV.under, AV.underL, List.all_nil, List.all_cons, bne_self_eq_false, List.getD_cons_zero, List.getD_cons_succ, List.length_nil, List.length_cons, and_true, true_and, rOf_take hi, runes_append]
      rfl
    · simp only [go_sem, Nat.reduceAdd, Nat.reduceEqDiff, Nat.reduceLT, reduceIte, reduceCtorEq, Nat.reduceBEq, Int.reduceLT, Int.reduceToNat, Int.reducePow, Nat.reduceLeDiff, Int.reduceLE, Nat.reduceMul, Nat.reduceSub, slotsBy, boxesBy, tipsBy, rawAt, nm, AV.ren, AV.renL, AV.under, AV.underL, List.all_nil, List.all_cons, bne_self_eq_false, List.getD_cons_zero, List.getD_cons_succ, List.length_nil, List.length_cons, and_true, true_and, beq_self_eq_true]
  · intro _
    rw [List.take_length]
    simp only [codesT_length, dec_irr, go_sem, Nat.reduceAdd, Nat.reduceEqDiff, Nat.reduceLT, reduceIte, reduceCtorEq, Nat.reduceBEq, Int.reduceLT, Int.reduceToNat, Int.reducePow, Nat.reduceLeDiff, Int.reduceLE, Nat.reduceMul, Nat.reduceSub]
    exact ⟨.inr rfl, 0, by simp only [resAV, resL, resOne, go_sem, Nat.reduceAdd, Nat.reduceEqDiff, Nat.reduceLT, reduceIte, reduceCtorEq, Nat.reduceBEq, Int.reduceLT, Int.reduceToNat, Int.reducePow, Nat.reduceLeDiff, Int.reduceLE, Nat.reduceMul, Nat.reduceSub], by simp [go_sem, Nat.reduceAdd, Nat.reduceEqDiff, Nat.reduceLT, reduceIte, reduceCtorEq, Nat.reduceBEq, Int.reduceLT, Int.reduceToNat, Int.reducePow, Nat.reduceLeDiff, Int.reduceLE, Nat.reduceMul, Nat.reduceSub]⟩
end Go.Proofs.Yteekelelcbfekaa

/-! ## SafD -/

namespace Go.Proofs.Yteekelelcbfekaa
open Go Go.Ab
def a25 : ACode :=
  (.seq (.reg [⟨(.some 8), (.mv (.k (.slice .none 0 0))), .none⟩]) (.seq (.seq (.reg [⟨(.some 11), (.mv (.t 2)), .none⟩, ⟨(.some 9), (.mv (.t 11)), .none⟩]) (.block 0 (.loop (.seq (.seq (.reg [⟨(.some
  12), (.mv (.t 9)), .none⟩, ⟨(.some 13), (.mv (.t 3)), .none⟩, ⟨(.some 14), (.bin .lss (.t 12) (.t 13)), .none⟩]) (.cond (.t 14) .skip (.exit 0))) (.seq (.block 1 (.seq (.reg [⟨(.some 17), (.mv (.t
  1)), .none⟩, ⟨(.some 18), (.mv (.t 9)), .none⟩, ⟨(.some 19), (.ixS (.t 17) (.t 18)), .none⟩, ⟨(.some 20), (.cvI .i32 (.t 19)), .none⟩, ⟨(.some 10), (.mv (.t 20)), .none⟩]) (.seq (.seq (.reg [⟨(.some
  21), (.mv (.t 1)), .none⟩, ⟨(.some 22), (.mv (.t 9)), .none⟩, ⟨(.some 23), (.ixS (.t 21) (.t 22)), .none⟩, ⟨(.some 24), (.bin .gtr (.t 23) (.k (.int .u8 127))), .none⟩]) (.cond (.t 24) (.reg [⟨(.some
  10), (.mv (.k (.int .i32 65533))), .none⟩]) .skip)) (.reg [⟨(.some 25), (.mv (.t 0)), .none⟩, ⟨(.some 26), (.mv (.t 10)), .none⟩, ⟨(.some 27), (.mv (.t 9)), .none⟩, ⟨(.some 28), (.mv (.t 9)), .none⟩,
  ⟨(.some 29), (.bin .add (.t 28) (.k (.int .i64 1))), .none⟩, ⟨(.some 30), (.bd [(.int .i32 0), (.int .i64 0), (.int .i64 0)] [(0, (1, (.t 26))), (1, (1, (.t 27))), (2, (1, (.t 29)))]), .none⟩, ⟨(.some
  31), (.bs 35 3 [(.t 30)]), .none⟩, ⟨(.some 32), (.app 35 24 (.t 25) (.t 31)), .none⟩, ⟨(.some 0), (.mv (.t 32)), .none⟩])))) (.reg [⟨(.some 15), (.mv (.t 9)), .none⟩, ⟨(.some 16), (.bin .add (.t 15)
  (.k (.int .i64 1))), .none⟩, ⟨(.some 9), (.mv (.t 16)), .none⟩])))))) (.seq (.reg [⟨(.some 33), (.mv (.t 0)), .none⟩, ⟨(.some 8), (.mv (.t 33)), .none⟩]) .ret)))
theorem c25 : Try.f25.body.bind (cCode Try.prog 34) = some a25 := by kernel_rfl
theorem r25 : Try.f25.results.toList = [(.tmp 8)] := by kernel_rfl
theorem n25 : Try.f25.ntmps = 34 := by kernel_rfl
theorem e25 : Enters Try.prog 25 := enters_of Try.func25 (by kernel_rfl) (by kernel_rfl)
def a11 : ACode :=
  (.seq (.reg [⟨(.some 2), (.mv (.k (.slice .none 0 0))), .none⟩]) (.seq (.reg [⟨(.some 3), (.mv (.k (.slice .none 0 0))), .none⟩]) (.seq (.reg [⟨(.some 4), (.mv (.k (.int .i64 0))), .none⟩]) (.seq
  (.block 0 (.loop (.seq (.seq (.reg [⟨(.some 10), (.mv (.t 4)), .none⟩, ⟨(.some 11), (.mv (.t 0)), .none⟩, ⟨(.some 12), (.lenS (.t 11)), .none⟩, ⟨(.some 13), (.bin .lss (.t 10) (.t 12)), .none⟩])
  (.cond (.t 13) .skip (.exit 0))) (.block 1 (.seq (.reg [⟨(.some 14), (.mv (.t 4)), .none⟩, ⟨(.some 5), (.mv (.t 14)), .none⟩]) (.seq (.block 2 (.loop (.seq (.seq (.reg [⟨(.some 15), (.mv (.t 0)),
  .none⟩, ⟨(.some 16), (.mv (.t 5)), .none⟩, ⟨(.some 17), (.call (.f 24) [(.t 15), (.t 16)]), .none⟩]) (.cond (.t 17) .skip (.exit 2))) (.block 3 (.reg [⟨(.some 18), (.mv (.t 5)), .none⟩, ⟨(.some 19),
  (.bin .add (.t 18) (.k (.int .i64 3))), .none⟩, ⟨(.some 5), (.mv (.t 19)), .none⟩]))))) (.seq (.seq (.reg [⟨(.some 20), (.mv (.t 5)), .none⟩, ⟨(.some 21), (.mv (.t 4)), .none⟩, ⟨(.some 22), (.bin .eql
  (.t 20) (.t 21)), .none⟩]) (.cond (.t 22) (.seq (.reg [⟨(.some 23), (.mv (.t 3)), .none⟩, ⟨(.some 24), (.mv (.t 0)), .none⟩, ⟨(.some 25), (.mv (.t 4)), .none⟩, ⟨(.some 26), (.mv (.t 4)), .none⟩,
  ⟨(.some 27), (.bin .add (.t 26) (.k (.int .i64 1))), .none⟩, ⟨(.some 28), (.call (.f 25) [(.t 23), (.t 24), (.t 25), (.t 27)]), .none⟩, ⟨(.some 3), (.mv (.t 28)), .none⟩]) (.seq (.reg [⟨(.some 29),
  (.mv (.t 4)), .none⟩, ⟨(.some 30), (.bin .add (.t 29) (.k (.int .i64 1))), .none⟩, ⟨(.some 4), (.mv (.t 30)), .none⟩]) (.exit 1))) .skip)) (.seq (.reg [⟨(.some 31), (.mv (.t 0)), .none⟩, ⟨(.some 32),
  (.mv (.t 4)), .none⟩, ⟨(.some 33), (.mv (.t 5)), .none⟩, ⟨(.some 34), (.slS (.t 31) (.some (.t 32)) (.some (.t 33))), .none⟩, ⟨(.some 35), (.call (.f 27) [(.t 34)]), .none⟩, ⟨(.some 36), (.call (.f
  26) [(.t 35)]), .none⟩, ⟨(.some 6), (.mv (.t 36)), .none⟩]) (.seq (.seq (.reg [⟨(.some 7), (.mv (.k (.int .i64 0))), .none⟩]) (.block 4 (.loop (.seq (.seq (.reg [⟨(.some 37), (.mv (.t 7)), .none⟩,
  ⟨(.some 38), (.mv (.t 6)), .none⟩, ⟨(.some 39), (.len (.t 38)), .none⟩, ⟨(.some 40), (.bin .lss (.t 37) (.t 39)), .none⟩]) (.cond (.t 40) .skip (.exit 4))) (.seq (.block 5 (.seq (.dreg [⟨(.some 43),
  (.mv (.t 4)), .none⟩, ⟨(.some 44), (.mv (.t 6)), .none⟩, ⟨(.some 45), (.mv (.t 7)), .none⟩, ⟨(.some 46), (.ia 35 (.t 44) (.t 45)), .none⟩, ⟨(.some 47), (.fa 1 (.t 46)), .none⟩, ⟨(.some 48), (.ld .none
  (.t 47)), .none⟩, ⟨(.some 49), (.bin .mul (.k (.int .i64 3)) (.t 48)), .none⟩, ⟨(.some 50), (.bin .add (.t 43) (.t 49)), .none⟩, ⟨(.some 51), (.mv (.t 4)), .none⟩, ⟨(.some 52), (.mv (.t 6)), .none⟩,
  ⟨(.some 53), (.mv (.t 7)), .none⟩, ⟨(.some 54), (.ia 35 (.t 52) (.t 53)), .none⟩, ⟨(.some 55), (.fa 2 (.t 54)), .none⟩, ⟨(.some 56), (.ld .none (.t 55)), .none⟩, ⟨(.some 57), (.bin .mul (.k (.int .i64
  3)) (.t 56)), .none⟩, ⟨(.some 58), (.bin .add (.t 51) (.t 57)), .none⟩, ⟨(.some 8), (.mv (.t 50)), .none⟩, ⟨(.some 9), (.mv (.t 58)), .none⟩]) (.seq (.reg [⟨(.some 59), (.mv (.t 6)), .none⟩, ⟨(.some
  60), (.mv (.t 7)), .none⟩, ⟨(.some 61), (.ia 35 (.t 59) (.t 60)), .none⟩, ⟨(.some 62), (.fa 0 (.t 61)), .none⟩, ⟨(.some 63), (.ld .none (.t 62)), .none⟩, ⟨(.some 64), (.call (.f 9) [(.t 63)]),
  .none⟩]) (.cond (.t 64) (.reg [⟨(.some 65), (.mv (.t 3)), .none⟩, ⟨(.some 66), (.mv (.t 6)), .none⟩, ⟨(.some 67), (.mv (.t 7)), .none⟩, ⟨(.some 68), (.ia 35 (.t 66) (.t 67)), .none⟩, ⟨(.some 69), (.fa
  0 (.t 68)), .none⟩, ⟨(.some 70), (.ld .none (.t 69)), .none⟩, ⟨(.some 71), (.mv (.t 8)), .none⟩, ⟨(.some 72), (.mv (.t 9)), .none⟩, ⟨(.some 73), (.bd [(.int .i32 0), (.int .i64 0), (.int .i64 0)] [(0,
  (1, (.t 70))), (1, (1, (.t 71))), (2, (1, (.t 72)))]), .none⟩, ⟨(.some 74), (.bs 35 3 [(.t 73)]), .none⟩, ⟨(.some 75), (.app 35 24 (.t 65) (.t 74)), .none⟩, ⟨(.some 3), (.mv (.t 75)), .none⟩]) (.reg
  [⟨(.some 76), (.mv (.t 3)), .none⟩, ⟨(.some 77), (.mv (.t 0)), .none⟩, ⟨(.some 78), (.mv (.t 8)), .none⟩, ⟨(.some 79), (.mv (.t 9)), .none⟩, ⟨(.some 80), (.call (.f 25) [(.t 76), (.t 77), (.t 78), (.t
  79)]), .none⟩, ⟨(.some 3), (.mv (.t 80)), .none⟩]))))) (.reg [⟨(.some 41), (.mv (.t 7)), .none⟩, ⟨(.some 42), (.bin .add (.t 41) (.k (.int .i64 1))), .none⟩, ⟨(.some 7), (.mv (.t 42)), .none⟩]))))))
  (.reg [⟨(.some 81), (.mv (.t 5)), .none⟩, ⟨(.some 4), (.mv (.t 81)), .none⟩])))))))))) (.seq (.reg [⟨(.some 82), (.mv (.t 3)), .none⟩, ⟨(.some 2), (.mv (.t 82)), .none⟩]) .ret)))))
theorem c11 : Try.f11.body.bind (cCode Try.prog 83) = some a11 := by kernel_rfl
theorem r11 : Try.f11.results.toList = [(.tmp 2)] := by kernel_rfl
theorem n11 : Try.f11.ntmps = 83 := by kernel_rfl
theorem e11 : Enters Try.prog 11 := enters_of Try.func11 (by kernel_rfl) (by kernel_rfl)

theorem eachT_step {b : List Nat} {fr j : Nat} (h : fr + j < b.length) : eachT fr ((b.drop fr).take (j + 1)) = eachT fr ((b.drop fr).take j) ++ [oneT (fr + j) b[fr + j]] := by
  have hj : j < (b.drop fr).length := by rw [List.length_drop]; omega
  rw [eachT_take hj, List.getElem_drop]

set_option maxRecDepth 10000 in
theorem alone_ok (b : List Nat) (fr to : Nat) (hb : ∀ n ∈ b, n ≤ 255) (hl : b.length ≤ 1099511627776) (hft : fr ≤ to) (hto : to ≤ b.length) {acc : List T3} (ha : acc.length ≤ 1099511627776) {t nx : Nat} (ht : t < nx) {K : AV → List (Nat × List AV) → List (Nat × TypeId) → Nat → Prop}
    (hK : ∀ t' nx', t' < nx' → K (.sl 35 (codesT (acc ++ eachT fr ((b.drop fr).take (to - fr)))) (some t')) [] [(t', 35)] nx') :
    CallOK Try.prog 25 [.sl 35 (codesT acc) (some t), .lit (.string (txt b)), .lit (.int .i64 (fr : Int)), .lit (.int .i64 (to : Int))] [] [(t, 35)] nx K := by
  refine callOK_walk Try.func25 c25 n25 e25 r25 (by simp) ?_
  simp only [a25, astart, argSlots, go_sem, Nat.reduceAdd, Nat.reduceEqDiff, Nat.reduceLT, reduceIte, reduceCtorEq, Nat.reduceBEq, Int.reduceLT, Int.reduceToNat, Int.reducePow, Nat.reduceLeDiff, Int.reduceLE, Nat.reduceMul, Nat.reduceSub]
  refine loop_by (α := Nat × Nat × Nat) (fun x => ⟨[(0, some (.sl 35 (codesT (acc ++ eachT fr ((b.drop fr).take x.1))) (some x.2.1))), (1, some (.lit (.string (txt b)))), (3, some (.lit (.int .i64 (to : Int)))), (9, some (.lit (.int .i64 ((fr + x.1 : Nat) : Int))))], [], [(x.2.1, 35)], x.2.2⟩)
    (fun x => fr + x.1 ≤ to ∧ x.2.1 < x.2.2) (fun x => to - (fr + x.1)) (fun x y h => by
      have := congrArg (cnt 9) h
      simp [cnt, Ab.look] at this
      rw [show x.1 = y.1 by omega]) (0, t, nx) (weak_forget ?_ (List.Sublist.refl _) (List.Sublist.refl _)) ⟨by first | omega | (simp only; omega), ht⟩ ?_
  · simp only [go_sem, Nat.reduceAdd, Nat.reduceEqDiff, Nat.reduceLT, reduceIte, reduceCtorEq, Nat.reduceBEq, Int.reduceLT, Int.reduceToNat, Int.reducePow, Nat.reduceLeDiff, Int.reduceLE, Nat.reduceMul, Nat.reduceSub, slotsBy, boxesBy, tipsBy, rawAt, nm, AV.ren, AV.renL, AV.under, AV.underL, List.all_nil, List.all_cons, bne_self_eq_false, List.getD_cons_zero, List.getD_cons_succ, List.length_nil, List.length_cons, and_true, true_and, slotsSub, List.take_zero, eachT, List.append_nil, Nat.add_zero]
  · rintro ⟨j, t, nx⟩ ⟨hi, ht⟩
    simp only at hi ht
    simp only [go_sem, Nat.reduceAdd, Nat.reduceEqDiff, Nat.reduceLT, reduceIte, reduceCtorEq, Nat.reduceBEq, Int.reduceLT, Int.reduceToNat, Int.reducePow, Nat.reduceLeDiff, Int.reduceLE, Nat.reduceMul, Nat.reduceSub]
    rcases Nat.lt_or_eq_of_le hi with hlt | heq
    · have hbl : fr + j < b.length := by omega
      have hbi := hb b[fr + j] (List.getElem_mem hbl)
      have h1 : IntKind.i64.wrap (((fr + j : Nat) : Int) + 1) = ((fr + j + 1 : Nat) : Int) := by rw [wrap_i64 _ (by omega) (by omega)]; omega
      have h4 : IntKind.i32.wrap ((b[fr + j] : Nat) : Int) = ((b[fr + j] : Nat) : Int) := wrap_i32 _ (by omega) (by omega)
      have e1 : (nx = t) = False := eq_false (by omega)
      have hlen : (codesT (acc ++ eachT fr ((b.drop fr).take j))).length ≤ acc.length + b.length := by rw [codesT_length, List.length_append, eachT_length, List.length_take, List.length_drop]; omega
      simp only [dec_lt hlt, txt_get hbl, u8_int hbi, h1, h4, go_sem, Nat.reduceAdd, Nat.reduceEqDiff, Nat.reduceLT, reduceIte, reduceCtorEq, Nat.reduceBEq, Int.reduceLT, Int.reduceToNat, Int.reducePow, Nat.reduceLeDiff, Int.reduceLE, Nat.reduceMul, Nat.reduceSub]
      refine cGo_split (fun h => ?_) (fun h => ?_)
      · simp only [decide_eq_true_eq] at h
        have e : oneT (fr + j) b[fr + j] = (65533, fr + j, fr + j + 1) := by simp only [oneT, if_pos (show 127 < b[fr + j] by omega)]
        simp only [h1, e1, go_sem, Nat.reduceAdd, Nat.reduceEqDiff, Nat.reduceLT, reduceIte, reduceCtorEq, Nat.reduceBEq, Int.reduceLT, Int.reduceToNat, Int.reducePow, Nat.reduceLeDiff, Int.reduceLE, Nat.reduceMul, Nat.reduceSub, allOne, AV.one, Value.oneCell', Int.natCast_zero, Nat.le_refl]
        have hs : codesT (acc ++ eachT fr ((b.drop fr).take j)) ++ [[.int .i32 65533, .int .i64 ((fr + j : Nat) : Int), .int .i64 ((fr + j + 1 : Nat) : Int)]] = codesT (acc ++ eachT fr ((b.drop fr).take (j + 1))) := by
          rw [eachT_step hbl, e, ← List.append_assoc, ← codesT_snoc]; try rfl
        have hj1 : fr + (j + 1) = fr + j + 1 := rfl
        refine ⟨⟨by omega, by omega⟩, (j + 1, nx + 1, nx + 2), weak_forget ?_ (List.Sublist.refl _) (.cons_cons _ (.cons _ .slnil)), ⟨by first | omega | (simp only; omega), by first | omega | (simp only; omega)⟩, by first | omega | (simp only; omega)⟩
        simp only [go_sem, Nat.reduceAdd, Nat.reduceEqDiff, Nat.reduceLT, reduceIte, reduceCtorEq, Nat.reduceBEq, Int.reduceLT, Int.reduceToNat, Int.reducePow, Nat.reduceLeDiff, Int.reduceLE, Nat.reduceMul, Nat.reduceSub, slotsBy, boxesBy, tipsBy, rawAt, nm, AV.ren, AV.renL, AV.under, AV.underL, List.all_nil, List.all_cons, bne_self_eq_false, List.getD_cons_zero, List.getD_cons_succ, List.length_nil, List.length_cons, and_true, true_and, slotsSub, hs, hj1]
      · simp only [decide_eq_false_iff_not] at h
        have e : oneT (fr + j) b[fr + j] = (b[fr + j], fr + j, fr + j + 1) := by simp only [oneT, if_neg (show ¬ 127 < b[fr + j] by omega)]
        simp only [h1, e1, go_sem, Nat.reduceAdd, Nat.reduceEqDiff, Nat.reduceLT, reduceIte, reduceCtorEq, Nat.reduceBEq, Int.reduceLT, Int.reduceToNat, Int.reducePow, Nat.reduceLeDiff, Int.reduceLE, Nat.reduceMul, Nat.reduceSub, allOne, AV.one, Value.oneCell', Int.natCast_zero, Nat.le_refl]
        have hs : codesT (acc ++ eachT fr ((b.drop fr).take j)) ++ [[.int .i32 ((b[fr + j] : Nat) : Int), .int .i64 ((fr + j : Nat) : Int), .int .i64 ((fr + j + 1 : Nat) : Int)]] = codesT (acc ++ eachT fr ((b.drop fr).take (j + 1))) := by
          rw [eachT_step hbl, e, ← List.append_assoc, ← codesT_snoc]; try rfl
        have hj1 : fr + (j + 1) = fr + j + 1 := rfl
        refine ⟨⟨by omega, by omega⟩, (j + 1, nx + 1, nx + 2), weak_forget ?_ (List.Sublist.refl _) (.cons_cons _ (.cons _ .slnil)), ⟨by first | omega | (simp only; omega), by first | omega | (simp only; omega)⟩, by first | omega | (simp only; omega)⟩
        simp only [go_sem, Nat.reduceAdd, Nat.reduceEqDiff, Nat.reduceLT, reduceIte, reduceCtorEq, Nat.reduceBEq, Int.reduceLT, Int.reduceToNat, Int.reducePow, Nat.reduceLeDiff, Int.reduceLE, Nat.reduceMul, Nat.reduceSub, slotsBy, boxesBy, tipsBy, rawAt, nm, AV.ren, AV.renL, AV.under, AV.underL, List.all_nil, List.all_cons, bne_self_eq_false, List.getD_cons_zero, List.getD_cons_succ, List.length_nil, List.length_cons, and_true, true_and, slotsSub, hs, hj1]
    · have hj : j = to - fr := by omega
      subst hj
      simp only [heq, dec_irr, go_sem, Nat.reduceAdd, Nat.reduceEqDiff, Nat.reduceLT, reduceIte, reduceCtorEq, Nat.reduceBEq, Int.reduceLT, Int.reduceToNat, Int.reducePow, Nat.reduceLeDiff, Int.reduceLE, Nat.reduceMul, Nat.reduceSub]
      exact ⟨.inr trivial, _, by simp only [resAV, resL, resOne, go_sem, Nat.reduceAdd, Nat.reduceEqDiff, Nat.reduceLT, reduceIte, reduceCtorEq, Nat.reduceBEq, Int.reduceLT, Int.reduceToNat, Int.reducePow, Nat.reduceLeDiff, Int.reduceLE, Nat.reduceMul, Nat.reduceSub], hK _ _ ht⟩

theorem callGo_ok' {P : Program} {g : FuncId} {xs : List AV} {sl : List (Nat × Option AV)} {bx bx1 : List (Nat × List AV)} {tp tp1 : List (Nat × TypeId)} {nx : Nat} {d : Option Nat} {K : State → Prop}
    (hb : bx1.Sublist bx) (ht : tp1.Sublist tp) (h : CallOK P g xs bx1 tp1 nx fun r bx tp nx => K (State.put ⟨sl, bx, tp, nx⟩ d r)) : callGo P (some (.fn (.func g) [] [])) (some xs) d ⟨sl, bx, tp, nx⟩ K :=
  callGo_ok (CallOK.forget hb ht h)

theorem nx_le {c : Nat} {t : List Nat} (hb : ∀ n ∈ c :: t, n ≤ 255) : (nx (c :: t)).1 ≤ 1114111 := by
  have hok := fun r k (h : nx (c :: t) = (r, k, true)) => nx_ok hb h
  have hfl := nx_fail (c := c) (t := t)
  generalize nx (c :: t) = z at hok hfl ⊢
  obtain ⟨r, k, ok⟩ := z
  cases ok
  · have := (hfl rfl).1
    simp only at this ⊢
    omega
  · have := (hok r k rfl).1
    unfold Scalar at this
    simp only
    omega
theorem cut_le : ∀ (f k : Nat) (q : List Nat), (∀ n ∈ q, n ≤ 255) → ∀ x ∈ cutF f k q, x.1 ≤ 1114111
  | 0, k, q, _ => by simp [cutF]
  | f + 1, k, [], _ => by simp [cutF]
  | f + 1, k, c :: t, h => by
    have ih := cut_le f (k + (nx (c :: t)).2.1) ((c :: t).drop (nx (c :: t)).2.1) fun n hn => h n (List.mem_of_mem_drop hn)
    intro x hx
    simp only [cutF, List.mem_cons] at hx
    rcases hx with rfl | hx
    · exact nx_le h
    · exact ih x hx

set_option maxRecDepth 10000 in
set_option maxHeartbeats 1000000 in
theorem refShow_pure (b : List Nat) (hb : ∀ n ∈ b, n ≤ 255) (hl : b.length ≤ 1000000) : Pure Try.prog 11 [.lit (.string (txt b))] [35] (.sl 35 (codesT (showT 0 b)) (some 0)) := by
  refine pure1 Try.func11 c11 n11 e11 r11 (by simp) ?_
  simp only [a11, astart, argSlots, go_sem, Nat.reduceAdd, Nat.reduceEqDiff, Nat.reduceLT, reduceIte, reduceCtorEq, Nat.reduceBEq, Int.reduceLT, Int.reduceToNat, Int.reducePow, Nat.reduceLeDiff, Int.reduceLE, Nat.reduceMul, Nat.reduceSub]
  refine loop_by (α := Nat × List T3) (fun x => ⟨[(0, some (.lit (.string (txt b)))), (3, some (.sl 35 (codesT x.2) (some 0))), (4, some (.lit (.int .i64 ((x.1 : Nat) : Int))))], [], [(0, 35)], 1⟩)
    (fun x => x.1 ≤ b.length ∧ x.2.length ≤ x.1 ∧ showT 0 b = x.2 ++ showT x.1 (b.drop x.1)) (fun x => b.length - x.1) (fun x y h => by
      have := congrArg (cnt 4) h
      simp [cnt, Ab.look] at this
      rw [this]) (0, []) ((weak_nil 3 35 (by simp only [go_sem, Nat.reduceAdd, Nat.reduceEqDiff, Nat.reduceLT, reduceIte, reduceCtorEq, Nat.reduceBEq, Int.reduceLT, Int.reduceToNat, Int.reducePow, Nat.reduceLeDiff, Int.reduceLE, Nat.reduceMul, Nat.reduceSub])).trans (weak_by [0] (by simp) rfl ?_ trivial ?_ (by simp))) ⟨by simp, by simp, rfl⟩ ?_
  · simp only [go_sem, Nat.reduceAdd, Nat.reduceEqDiff, Nat.reduceLT, reduceIte, reduceCtorEq, Nat.reduceBEq, Int.reduceLT, Int.reduceToNat, Int.reducePow, Nat.reduceLeDiff, Int.reduceLE, Nat.reduceMul, Nat.reduceSub, slotsBy, boxesBy, tipsBy, rawAt, nm, AV.ren, AV.renL, AV.under, AV.underL, List.all_nil, List.all_cons, bne_self_eq_false, List.getD_cons_zero, List.getD_cons_succ, List.length_nil, List.length_cons, and_true, true_and, codesT, List.map_nil, Int.natCast_zero]
  · simp only [go_sem, Nat.reduceAdd, Nat.reduceEqDiff, Nat.reduceLT, reduceIte, reduceCtorEq, Nat.reduceBEq, Int.reduceLT, Int.reduceToNat, Int.reducePow, Nat.reduceLeDiff, Int.reduceLE, Nat.reduceMul, Nat.reduceSub, slotsBy, boxesBy, tipsBy, rawAt, nm, AV.ren, AV.renL, AV.under, AV.underL, List.all_nil, List.all_cons, bne_self_eq_false, List.getD_cons_zero, List.getD_cons_succ, List.length_nil, List.length_cons, and_true, true_and, beq_self_eq_true]
  · rintro ⟨i, acc⟩ ⟨hi, hlen, hshow⟩
    simp only at hi hlen hshow
    simp only [go_sem, Nat.reduceAdd, Nat.reduceEqDiff, Nat.reduceLT, reduceIte, reduceCtorEq, Nat.reduceBEq, Int.reduceLT, Int.reduceToNat, Int.reducePow, Nat.reduceLeDiff, Int.reduceLE, Nat.reduceMul, Nat.reduceSub]
    rcases Nat.lt_or_eq_of_le hi with hlt | heq
    · have hrow := rowN_le (b.drop i)
      rw [List.length_drop] at hrow
      simp only [txt_size, dec_lt hlt, go_sem, Nat.reduceAdd, Nat.reduceEqDiff, Nat.reduceLT, reduceIte, reduceCtorEq, Nat.reduceBEq, Int.reduceLT, Int.reduceToNat, Int.reducePow, Nat.reduceLeDiff, Int.reduceLE, Nat.reduceMul, Nat.reduceSub]
      refine loop_by (α := Nat) (fun k => ⟨[(0, some (.lit (.string (txt b)))), (3, some (.sl 35 (codesT acc) (some 0))), (4, some (.lit (.int .i64 ((i : Nat) : Int)))), (5, some (.lit (.int .i64 ((i + 3 * k : Nat) : Int))))], [], [(0, 35)], 1⟩)
        (fun k => i + 3 * k ≤ b.length ∧ rowN (b.drop i) = k + rowN (b.drop (i + 3 * k))) (fun k => b.length - (i + 3 * k)) (fun x y h => by
          have := congrArg (cnt 5) h
          simp [cnt, Ab.look] at this
          rw [show x = y by omega]) 0 (weak_forget ?_ (List.Sublist.refl _) (List.Sublist.refl _)) ⟨by omega, by simp⟩ ?_
      · simp only [go_sem, Nat.reduceAdd, Nat.reduceEqDiff, Nat.reduceLT, reduceIte, reduceCtorEq, Nat.reduceBEq, Int.reduceLT, Int.reduceToNat, Int.reducePow, Nat.reduceLeDiff, Int.reduceLE, Nat.reduceMul, Nat.reduceSub, slotsBy, boxesBy, tipsBy, rawAt, nm, AV.ren, AV.renL, AV.under, AV.underL, List.all_nil, List.all_cons, bne_self_eq_false, List.getD_cons_zero, List.getD_cons_succ, List.length_nil, List.length_cons, and_true, true_and, slotsSub, Nat.mul_zero, Nat.add_zero]
      · rintro k ⟨hk, hkr⟩
        simp only [go_sem, Nat.reduceAdd, Nat.reduceEqDiff, Nat.reduceLT, reduceIte, reduceCtorEq, Nat.reduceBEq, Int.reduceLT, Int.reduceToNat, Int.reducePow, Nat.reduceLeDiff, Int.reduceLE, Nat.reduceMul, Nat.reduceSub]
        refine callGo_pure (is_pure b _ hb (by omega) hk) (by rfl) ?_
        cases hc : isC (b.drop (i + 3 * k))
        · rw [rowN_plain hc, Nat.add_zero] at hkr
          simp only [go_sem, Nat.reduceAdd, Nat.reduceEqDiff, Nat.reduceLT, reduceIte, reduceCtorEq, Nat.reduceBEq, Int.reduceLT, Int.reduceToNat, Int.reducePow, Nat.reduceLeDiff, Int.reduceLE, Nat.reduceMul, Nat.reduceSub]
          have hsl0 : (b.take (i + 3 * k)).drop i = (b.drop i).take (3 * k) := by rw [List.drop_take]; congr 1; omega
          rcases Nat.eq_zero_or_pos k with h0 | hpos
          · subst h0
            have a0 : ((i : Int) == (i : Int)) = true := by simp
            have h1 : IntKind.i64.wrap ((i : Int) + 1) = ((i + 1 : Nat) : Int) := by rw [wrap_i64 _ (by omega) (by omega)]; omega
            rw [Nat.mul_zero, Nat.add_zero, List.drop_eq_getElem_cons hlt] at hc
            rw [List.drop_eq_getElem_cons hlt, showT_one hc] at hshow
            have hone : (b.drop i).take (i + 1 - i) = [b[i]] := by rw [List.drop_eq_getElem_cons hlt, show i + 1 - i = 1 by omega]; rfl
            simp only [a0, h1, go_sem, Nat.reduceAdd, Nat.reduceEqDiff, Nat.reduceLT, reduceIte, reduceCtorEq, Nat.reduceBEq, Int.reduceLT, Int.reduceToNat, Int.reducePow, Nat.reduceLeDiff, Int.reduceLE, Nat.reduceMul, Nat.reduceSub]
            refine callGo_ok (alone_ok (acc := acc) (t := 0) (nx := 1) b i (i + 1) hb (by omega) (by omega) (by omega) (by omega) (by omega) fun t' nx' ht => ?_)
            rw [hone]
            simp only [h1, go_sem, Nat.reduceAdd, Nat.reduceEqDiff, Nat.reduceLT, reduceIte, reduceCtorEq, Nat.reduceBEq, Int.reduceLT, Int.reduceToNat, Int.reducePow, Nat.reduceLeDiff, Int.reduceLE, Nat.reduceMul, Nat.reduceSub]
            refine ⟨(i + 1, acc ++ eachT i [b[i]]), weak_by [t'] (by simp) rfl ?_ trivial ?_ (by simp), ⟨by omega, by rw [List.length_append, eachT_length, List.length_cons, List.length_nil]; omega, by rw [hshow]; simp [eachT]⟩, by omega⟩
            · simp only [go_sem, Nat.reduceAdd, Nat.reduceEqDiff, Nat.reduceLT, reduceIte, reduceCtorEq, Nat.reduceBEq, Int.reduceLT, Int.reduceToNat, Int.reducePow, Nat.reduceLeDiff, Int.reduceLE, Nat.reduceMul, Nat.reduceSub, slotsBy, boxesBy, tipsBy, rawAt, nm, AV.ren, AV.renL, AV.under, AV.underL, List.all_nil, List.all_cons, bne_self_eq_false, List.getD_cons_zero, List.getD_cons_succ, List.length_nil, List.length_cons, and_true, true_and]
            · simp only [go_sem, Nat.reduceAdd, Nat.reduceEqDiff, Nat.reduceLT, reduceIte, reduceCtorEq, Nat.reduceBEq, Int.reduceLT, Int.reduceToNat, Int.reducePow, Nat.reduceLeDiff, Int.reduceLE, Nat.reduceMul, Nat.reduceSub, slotsBy, boxesBy, tipsBy, rawAt, nm, AV.ren, AV.renL, AV.under, AV.underL, List.all_nil, List.all_cons, bne_self_eq_false, List.getD_cons_zero, List.getD_cons_succ, List.length_nil, List.length_cons, and_true, true_and, beq_self_eq_true]
          · have a0 : (((i + 3 * k : Nat) : Int) == (i : Int)) = false := by simp only [beq_eq_false_iff_ne, ne_eq]; omega
            have hcode : isC (b.drop i) = true := rowN_pos.1 (by omega)
            have hlen2 := said_row_len i (b.drop i)
            have hdr := dec_row (b.drop i)
            rw [showT_row hcode, List.drop_drop] at hshow
            rw [hkr] at hlen2 hdr hshow
            obtain ⟨q, hq⟩ : ∃ q, q = (b.drop i).take (3 * k) := ⟨_, rfl⟩
            rw [← hq] at hlen2 hdr hshow hsl0
            have hq2 : ∀ n ∈ q, n ≤ 255 := fun n hn => by rw [hq] at hn; exact hb n (List.mem_of_mem_drop (List.mem_of_mem_take hn))
            have hql : q.length = 3 * k := by rw [hq, List.length_take, List.length_drop]; omega
            have hin1 : (if i ≤ i + 3 * k ∧ i + 3 * k ≤ b.length then some (i, i + 3 * k) else none : Option (Nat × Nat)) = some (i, i + 3 * k) := if_pos ⟨by omega, by omega⟩
            simp only [a0, txt_size, hin1, txt_slice, hsl0, go_sem, Nat.reduceAdd, Nat.reduceEqDiff, Nat.reduceLT, reduceIte, reduceCtorEq, Nat.reduceBEq, Int.reduceLT, Int.reduceToNat, Int.reducePow, Nat.reduceLeDiff, Int.reduceLE, Nat.reduceMul, Nat.reduceSub]
            refine callGo_pure (refDecode_pure q hq2 (by omega)) (by rfl) ?_
            simp only [go_sem, Nat.reduceAdd, Nat.reduceEqDiff, Nat.reduceLT, reduceIte, reduceCtorEq, Nat.reduceBEq, Int.reduceLT, Int.reduceToNat, Int.reducePow, Nat.reduceLeDiff, Int.reduceLE, Nat.reduceMul, Nat.reduceSub]
            refine callGo_pure (refCodes_pure _ (decP_le hq2) (by omega)) (by rfl) ?_
            simp only [go_sem, Nat.reduceAdd, Nat.reduceEqDiff, Nat.reduceLT, reduceIte, reduceCtorEq, Nat.reduceBEq, Int.reduceLT, Int.reduceToNat, Int.reducePow, Nat.reduceLeDiff, Int.reduceLE, Nat.reduceMul, Nat.reduceSub]
            obtain ⟨L, hL⟩ : ∃ L, L = cut 0 (decP q) := ⟨_, rfl⟩
            have hsaid : saidT i q = L.flatMap (sayT q i) := by rw [hL]; rfl
            have hLm : ∀ x ∈ L, x.2.1 < x.2.2.1 ∧ x.2.2.1 ≤ (decP q).length := fun x hx => cut_mem (by rw [← hL]; exact hx)
            have hLr : ∀ x ∈ L, x.1 ≤ 1114111 := fun x hx => cut_le _ 0 _ (decP_le hq2) x (by rw [hL] at hx; exact hx)
            have hLl : L.length ≤ (decP q).length := by rw [hL]; exact cut_length _ _
            rw [hsaid] at hlen2 hshow
            rw [← hL]
            clear hL
            refine loop_by (α := Nat × Nat × Nat) (fun x => ⟨[(0, some (.lit (.string (txt b)))), (3, some (.sl 35 (codesT (acc ++ (L.take x.1).flatMap (sayT q i))) (some x.2.1))), (4, some (.lit (.int .i64 (i : Int)))), (5, some (.lit (.int .i64 ((i + 3 * k : Nat) : Int)))), (6, some (.sl 35 (codesC L) none)), (7, some (.lit (.int .i64 ((x.1 : Nat) : Int))))], [], [(x.2.1, 35)], x.2.2⟩)
              (fun x => x.1 ≤ L.length ∧ x.2.1 < x.2.2) (fun x => L.length - x.1) (fun x y h => by
                have := congrArg (cnt 7) h
                simp [cnt, Ab.look] at this
                rw [this]) (0, 0, 3) ((weak_untip 6 rfl).trans (weak_forget ?_ (List.Sublist.refl _) (.cons _ (.cons _ (List.Sublist.refl _))))) ⟨by simp, by simp⟩ ?_
            · simp only [go_sem, Nat.reduceAdd, Nat.reduceEqDiff, Nat.reduceLT, reduceIte, reduceCtorEq, Nat.reduceBEq, Int.reduceLT, Int.reduceToNat, Int.reducePow, Nat.reduceLeDiff, Int.reduceLE, Nat.reduceMul, Nat.reduceSub, slotsBy, boxesBy, tipsBy, rawAt, nm, AV.ren, AV.renL, AV.under, AV.underL, List.all_nil, List.all_cons, bne_self_eq_false, List.getD_cons_zero, List.getD_cons_succ, List.length_nil, List.length_cons, and_true, true_and, slotsSub, Int.natCast_zero, List.take_zero, List.flatMap_nil, List.append_nil]
            · rintro ⟨j, t, nx⟩ ⟨hj, ht⟩
              simp only at hj ht
              simp only [go_sem, Nat.reduceAdd, Nat.reduceEqDiff, Nat.reduceLT, reduceIte, reduceCtorEq, Nat.reduceBEq, Int.reduceLT, Int.reduceToNat, Int.reducePow, Nat.reduceLeDiff, Int.reduceLE, Nat.reduceMul, Nat.reduceSub, codesC_length]
              rcases Nat.lt_or_eq_of_le hj with hjl | heq
              · have hm := hLm L[j] (List.getElem_mem hjl)
                have hr1 := hLr L[j] (List.getElem_mem hjl)
                have hg := codesC_get L j hjl
                have hfl := flat_take hjl (sayT q i)
                have hpre := say_prefix q i (j + 1) L
                rw [hfl, List.length_append] at hpre
                generalize L[j] = x at hm hr1 hg hfl hpre
                obtain ⟨r, from_, to_, ok⟩ := x
                simp only at hm hr1 hg hfl hpre
                have h1 : IntKind.i64.wrap ((j : Int) + 1) = ((j + 1 : Nat) : Int) := by rw [wrap_i64 _ (by omega) (by omega)]; omega
                have w1 : IntKind.i64.wrap (3 * (from_ : Int)) = ((3 * from_ : Nat) : Int) := by rw [wrap_i64 _ (by omega) (by omega)]; omega
                have w2 : IntKind.i64.wrap (3 * (to_ : Int)) = ((3 * to_ : Nat) : Int) := by rw [wrap_i64 _ (by omega) (by omega)]; omega
                have w3 : IntKind.i64.wrap ((i : Int) + ((3 * from_ : Nat) : Int)) = ((i + 3 * from_ : Nat) : Int) := by rw [wrap_i64 _ (by omega) (by omega)]; omega
                have w4 : IntKind.i64.wrap ((i : Int) + ((3 * to_ : Nat) : Int)) = ((i + 3 * to_ : Nat) : Int) := by rw [wrap_i64 _ (by omega) (by omega)]; omega
                simp only [dec_lt hjl, hg, w1, w2, w3, w4, go_sem, Nat.reduceAdd, Nat.reduceEqDiff, Nat.reduceLT, reduceIte, reduceCtorEq, Nat.reduceBEq, Int.reduceLT, Int.reduceToNat, Int.reducePow, Nat.reduceLeDiff, Int.reduceLE, Nat.reduceMul, Nat.reduceSub, allOne, AV.one, Value.oneCell', Int.natCast_zero, Nat.le_refl]
                refine callGo_pure (refSafe_pure (r : Int) ⟨by omega, by omega⟩) (by rfl) ?_
                cases hs : safeOf (r : Int)
                · have hcutq : (q.take (3 * to_)).drop (3 * from_) = (b.drop (i + 3 * from_)).take (i + 3 * to_ - (i + 3 * from_)) := by
                    rw [hq, List.take_take, Nat.min_eq_left (by omega), List.drop_take, List.drop_drop]; congr 1; omega
                  have hsay : sayT q i (r, from_, to_, ok) = eachT (i + 3 * from_) ((b.drop (i + 3 * from_)).take (i + 3 * to_ - (i + 3 * from_))) := by simp only [sayT, hs, Bool.false_eq_true, if_false, hcutq]
                  rw [hsay] at hfl hpre
                  simp only [hs, w3, w4, go_sem, Nat.reduceAdd, Nat.reduceEqDiff, Nat.reduceLT, reduceIte, reduceCtorEq, Nat.reduceBEq, Int.reduceLT, Int.reduceToNat, Int.reducePow, Nat.reduceLeDiff, Int.reduceLE, Nat.reduceMul, Nat.reduceSub]
                  refine callGo_ok (alone_ok (acc := acc ++ (L.take j).flatMap (sayT q i)) (t := t) (nx := nx) b (i + 3 * from_) (i + 3 * to_) hb (by omega) (by omega) (by omega) (by rw [List.length_append]; omega) ht fun t' nx' ht' => ?_)
                  rw [List.append_assoc, ← hfl]
                  simp only [h1, go_sem, Nat.reduceAdd, Nat.reduceEqDiff, Nat.reduceLT, reduceIte, reduceCtorEq, Nat.reduceBEq, Int.reduceLT, Int.reduceToNat, Int.reducePow, Nat.reduceLeDiff, Int.reduceLE, Nat.reduceMul, Nat.reduceSub]
                  refine ⟨(j + 1, t', nx'), weak_forget ?_ (List.Sublist.refl _) (List.Sublist.refl _), ⟨by omega, ht'⟩, by omega⟩
                  simp only [go_sem, Nat.reduceAdd, Nat.reduceEqDiff, Nat.reduceLT, reduceIte, reduceCtorEq, Nat.reduceBEq, Int.reduceLT, Int.reduceToNat, Int.reducePow, Nat.reduceLeDiff, Int.reduceLE, Nat.reduceMul, Nat.reduceSub, slotsBy, boxesBy, tipsBy, rawAt, nm, AV.ren, AV.renL, AV.under, AV.underL, List.all_nil, List.all_cons, bne_self_eq_false, List.getD_cons_zero, List.getD_cons_succ, List.length_nil, List.length_cons, and_true, true_and, slotsSub]
                · have hsay : sayT q i (r, from_, to_, ok) = [(r, i + 3 * from_, i + 3 * to_)] := by simp only [sayT, hs, if_true]
                  rw [hsay] at hfl hpre
                  have e1 : (nx = t) = False := eq_false (by omega)
                  have hlen3 : (codesT (acc ++ (L.take j).flatMap (sayT q i))).length ≤ 1099511627776 := by rw [codesT_length, List.length_append]; omega
                  have hsn := codesT_snoc (acc ++ (L.take j).flatMap (sayT q i)) (r, i + 3 * from_, i + 3 * to_)
                  rw [List.append_assoc, ← hfl] at hsn
                  simp only at hsn
                  simp only [hs, hg, w3, w4, e1, h1, go_sem, Nat.reduceAdd, Nat.reduceEqDiff, Nat.reduceLT, reduceIte, reduceCtorEq, Nat.reduceBEq, Int.reduceLT, Int.reduceToNat, Int.reducePow, Nat.reduceLeDiff, Int.reduceLE, Nat.reduceMul, Nat.reduceSub, allOne, AV.one, Value.oneCell', Int.natCast_zero, Nat.le_refl]
                  refine ⟨⟨by omega, by omega⟩, (j + 1, nx + 1, nx + 2), weak_forget ?_ (List.Sublist.refl _) (.cons_cons _ (.cons _ .slnil)), ⟨by first | omega | (simp only; omega), by first | omega | (simp only; omega)⟩, by first | omega | (simp only; omega)⟩
                  simp only [go_sem, Nat.reduceAdd, Nat.reduceEqDiff, Nat.reduceLT, reduceIte, reduceCtorEq, Nat.reduceBEq, Int.reduceLT, Int.reduceToNat, Int.reducePow, Nat.reduceLeDiff, Int.reduceLE, Nat.reduceMul, Nat.reduceSub, slotsBy, boxesBy, tipsBy, rawAt, nm, AV.ren, AV.renL, AV.under, AV.underL, List.all_nil, List.all_cons, bne_self_eq_false, List.getD_cons_zero, List.getD_cons_succ, List.length_nil, List.length_cons, and_true, true_and, slotsSub, hsn]
              · subst heq
                rw [List.take_length]
                simp only [dec_irr, go_sem, Nat.reduceAdd, Nat.reduceEqDiff, Nat.reduceLT, reduceIte, reduceCtorEq, Nat.reduceBEq, Int.reduceLT, Int.reduceToNat, Int.reducePow, Nat.reduceLeDiff, Int.reduceLE, Nat.reduceMul, Nat.reduceSub]
                refine ⟨(i + 3 * k, acc ++ L.flatMap (sayT q i)), weak_by [t] (by simp) rfl ?_ trivial ?_ (by simp), ⟨by omega, by rw [List.length_append]; omega, by rw [hshow]; simp⟩, by omega⟩
                · simp only [go_sem, Nat.reduceAdd, Nat.reduceEqDiff, Nat.reduceLT, reduceIte, reduceCtorEq, Nat.reduceBEq, Int.reduceLT, Int.reduceToNat, Int.reducePow, Nat.reduceLeDiff, Int.reduceLE, Nat.reduceMul, Nat.reduceSub, slotsBy, boxesBy, tipsBy, rawAt, nm, AV.ren, AV.renL, AV.under, AV.underL, List.all_nil, List.all_cons, bne_self_eq_false, List.getD_cons_zero, List.getD_cons_succ, List.length_nil, List.length_cons, and_true, true_and]
                · simp only [go_sem, Nat.reduceAdd, Nat.reduceEqDiff, Nat.reduceLT, reduceIte, reduceCtorEq, Nat.reduceBEq, Int.reduceLT, Int.reduceToNat, Int.reducePow, Nat.reduceLeDiff, Int.reduceLE, Nat.reduceMul, Nat.reduceSub, slotsBy, boxesBy, tipsBy, rawAt, nm, AV.ren, AV.renL, AV.under, AV.underL, List.all_nil, List.all_cons, bne_self_eq_false, List.getD_cons_zero, List.getD_cons_succ, List.length_nil, List.length_cons, and_true, true_and, beq_self_eq_true]
        · have h3 := isC_len hc
          rw [List.length_drop] at h3
          have hn := rowN_code hc
          rw [List.drop_drop] at hn
          have e3 : i + 3 * (k + 1) = i + 3 * k + 3 := by omega
          have h1 : IntKind.i64.wrap (((i + 3 * k : Nat) : Int) + 3) = ((i + 3 * k + 3 : Nat) : Int) := by rw [wrap_i64 _ (by omega) (by omega)]; omega
          simp only [h1, go_sem, Nat.reduceAdd, Nat.reduceEqDiff, Nat.reduceLT, reduceIte, reduceCtorEq, Nat.reduceBEq, Int.reduceLT, Int.reduceToNat, Int.reducePow, Nat.reduceLeDiff, Int.reduceLE, Nat.reduceMul, Nat.reduceSub]
          refine ⟨k + 1, weak_forget ?_ (List.Sublist.refl _) (List.Sublist.refl _), ⟨by omega, by rw [e3]; omega⟩, by omega⟩
          simp only [go_sem, Nat.reduceAdd, Nat.reduceEqDiff, Nat.reduceLT, reduceIte, reduceCtorEq, Nat.reduceBEq, Int.reduceLT, Int.reduceToNat, Int.reducePow, Nat.reduceLeDiff, Int.reduceLE, Nat.reduceMul, Nat.reduceSub, slotsBy, boxesBy, tipsBy, rawAt, nm, AV.ren, AV.renL, AV.under, AV.underL, List.all_nil, List.all_cons, bne_self_eq_false, List.getD_cons_zero, List.getD_cons_succ, List.length_nil, List.length_cons, and_true, true_and, slotsSub, e3]
    · subst heq
      rw [List.drop_length, showT_nil, List.append_nil] at hshow
      rw [hshow]
      simp only [txt_size, dec_irr, go_sem, Nat.reduceAdd, Nat.reduceEqDiff, Nat.reduceLT, reduceIte, reduceCtorEq, Nat.reduceBEq, Int.reduceLT, Int.reduceToNat, Int.reducePow, Nat.reduceLeDiff, Int.reduceLE, Nat.reduceMul, Nat.reduceSub]
      exact ⟨.inr rfl, 0, by simp only [resAV, resL, resOne, go_sem, Nat.reduceAdd, Nat.reduceEqDiff, Nat.reduceLT, reduceIte, reduceCtorEq, Nat.reduceBEq, Int.reduceLT, Int.reduceToNat, Int.reducePow, Nat.reduceLeDiff, Int.reduceLE, Nat.reduceMul, Nat.reduceSub], by simp [go_sem, Nat.reduceAdd, Nat.reduceEqDiff, Nat.reduceLT, reduceIte, reduceCtorEq, Nat.reduceBEq, Int.reduceLT, Int.reduceToNat, Int.reducePow, Nat.reduceLeDiff, Int.reduceLE, Nat.reduceMul, Nat.reduceSub]⟩
end Go.Proofs.Yteekelelcbfekaa
