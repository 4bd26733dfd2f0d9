/-
What a text is shown as. Conditions: none.
-/
import Derived.Test.YteekelelcbfekaaDoorSaMc
import Derived.Test.YteekelelcbfekaaDoorSaMb
set_option linter.unusedSimpArgs false
set_option linter.unusedVariables false
set_option linter.unusedSectionVars false

/-! ## SafAD -/

namespace Go.Proofs.YteekelelcbfekaaDoor
open Go Go.Ab
def a55 : ACode :=
  (.seq (.reg [⟨(.some 6), (.mv (.k (.bool false))), .none⟩]) (.seq (.seq (.reg [⟨(.some 9), (.mv (.t 0)), .none⟩, ⟨(.some 10), (.lenS (.t 9)), .none⟩, ⟨(.some 11), (.mv (.k (.int .i64 0))), .none⟩])
  (.block 0 (.loop (.seq (.reg [⟨(.some 12), (.bin .lss (.t 11) (.t 10)), .none⟩]) (.seq (.cond (.t 12) .skip (.exit 0)) (.seq (.block 1 (.seq (.reg [⟨(.some 13), (.mv (.t 11)), .none⟩, ⟨(.some 7), (.mv
  (.t 13)), .none⟩]) (.seq (.reg [⟨(.some 14), (.mv (.t 0)), .none⟩, ⟨(.some 15), (.mv (.t 7)), .none⟩, ⟨(.some 16), (.ixS (.t 14) (.t 15)), .none⟩, ⟨(.some 17), (.cvI .i32 (.t 16)), .none⟩, ⟨(.some 8),
  (.mv (.t 17)), .none⟩]) (.seq (.seq (.reg [⟨(.some 18), (.mv (.t 8)), .none⟩, ⟨(.some 19), (.bin .gtr (.t 18) (.k (.int .i32 127))), .none⟩]) (.cond (.t 19) (.reg [⟨(.some 8), (.mv (.k (.int .i32
  65533))), .none⟩]) .skip)) (.seq (.reg [⟨(.some 20), (.mv (.t 2)), .none⟩, ⟨(.some 21), (.mv (.t 8)), .none⟩, ⟨(.some 22), (.mv (.t 1)), .none⟩, ⟨(.some 23), (.mv (.t 7)), .none⟩, ⟨(.some 24), (.bin
  .add (.t 22) (.t 23)), .none⟩, ⟨(.some 25), (.mv (.t 1)), .none⟩, ⟨(.some 26), (.mv (.t 7)), .none⟩, ⟨(.some 27), (.bin .add (.t 25) (.t 26)), .none⟩, ⟨(.some 28), (.bin .add (.t 27) (.k (.int .i64
  1))), .none⟩, ⟨(.some 29), (.bd [(.int .i32 0), (.int .i64 0), (.int .i64 0)] [(0, (1, (.t 21))), (1, (1, (.t 24))), (2, (1, (.t 28)))]), .none⟩, ⟨(.some 30), (.call (.t 20) [(.t 29)]), .none⟩,
  ⟨(.some 31), (.not (.t 30)), .none⟩]) (.cond (.t 31) (.seq (.reg [⟨(.some 6), (.mv (.k (.bool false))), .none⟩]) .ret) .skip)))))) (.reg [⟨(.some 32), (.bin .add (.t 11) (.k (.int .i64 1))), .none⟩,
  ⟨(.some 11), (.mv (.t 32)), .none⟩]))))))) (.seq (.reg [⟨(.some 6), (.mv (.k (.bool true))), .none⟩]) .ret)))
theorem c55 : Tryd.f55.body.bind (cCode Tryd.prog 33) = some a55 := by kernel_rfl
theorem r55 : Tryd.f55.results.toList = [(.tmp 6)] := by kernel_rfl
theorem n55 : Tryd.f55.ntmps = 33 := by kernel_rfl
theorem e55 : Enters Tryd.prog 55 := Go.Ab.enters_of Tryd.func55 (by kernel_rfl) (by kernel_rfl)
def a54 : ACode :=
  (.seq (.reg [⟨(.some 6), (.mv (.k (.bool false))), .none⟩]) (.seq (.seq (.reg [⟨(.some 11), (.mv (.t 0)), .none⟩, ⟨(.some 12), (.call (.f 10) [(.t 11)]), .none⟩, ⟨(.some 13), (.call (.f 71) [(.t
  12)]), .none⟩, ⟨(.some 14), (.len (.t 13)), .none⟩, ⟨(.some 15), (.mv (.k (.int .i64 0))), .none⟩]) (.block 0 (.loop (.seq (.reg [⟨(.some 16), (.bin .lss (.t 15) (.t 14)), .none⟩]) (.seq (.cond (.t
  16) .skip (.exit 0)) (.seq (.block 1 (.seq (.reg [⟨(.some 17), (.ia 42 (.t 13) (.t 15)), .none⟩, ⟨(.some 18), (.ld (.some 3) (.t 17)), .none⟩, ⟨(.some 8), (.alc 42 [(.int .i32 0), (.int .i64 0), (.int
  .i64 0)]), .none⟩, ⟨.none, (.st 3 (.t 8) (.t 18)), .none⟩]) (.seq (.dreg [⟨(.some 19), (.fa 1 (.t 8)), .none⟩, ⟨(.some 20), (.ld .none (.t 19)), .none⟩, ⟨(.some 21), (.bin .mul (.k (.int .i64 3)) (.t
  20)), .none⟩, ⟨(.some 22), (.fa 2 (.t 8)), .none⟩, ⟨(.some 23), (.ld .none (.t 22)), .none⟩, ⟨(.some 24), (.bin .mul (.k (.int .i64 3)) (.t 23)), .none⟩, ⟨(.some 9), (.mv (.t 21)), .none⟩, ⟨(.some
  10), (.mv (.t 24)), .none⟩]) (.seq (.seq (.reg [⟨(.some 25), (.fa 0 (.t 8)), .none⟩, ⟨(.some 26), (.ld .none (.t 25)), .none⟩, ⟨(.some 27), (.call (.f 13) [(.t 26)]), .none⟩]) (.cond (.t 27) (.seq
  (.seq (.reg [⟨(.some 28), (.mv (.t 2)), .none⟩, ⟨(.some 29), (.fa 0 (.t 8)), .none⟩, ⟨(.some 30), (.ld .none (.t 29)), .none⟩, ⟨(.some 31), (.mv (.t 1)), .none⟩, ⟨(.some 32), (.mv (.t 9)), .none⟩,
  ⟨(.some 33), (.bin .add (.t 31) (.t 32)), .none⟩, ⟨(.some 34), (.mv (.t 1)), .none⟩, ⟨(.some 35), (.mv (.t 10)), .none⟩, ⟨(.some 36), (.bin .add (.t 34) (.t 35)), .none⟩, ⟨(.some 37), (.bd [(.int .i32
  0), (.int .i64 0), (.int .i64 0)] [(0, (1, (.t 30))), (1, (1, (.t 33))), (2, (1, (.t 36)))]), .none⟩, ⟨(.some 38), (.call (.t 28) [(.t 37)]), .none⟩, ⟨(.some 39), (.not (.t 38)), .none⟩]) (.cond (.t
  39) (.seq (.reg [⟨(.some 6), (.mv (.k (.bool false))), .none⟩]) .ret) .skip)) (.exit 1)) .skip)) (.seq (.reg [⟨(.some 40), (.mv (.t 0)), .none⟩, ⟨(.some 41), (.mv (.t 9)), .none⟩, ⟨(.some 42), (.mv
  (.t 10)), .none⟩, ⟨(.some 43), (.slS (.t 40) (.some (.t 41)) (.some (.t 42))), .none⟩, ⟨(.some 44), (.mv (.t 1)), .none⟩, ⟨(.some 45), (.mv (.t 9)), .none⟩, ⟨(.some 46), (.bin .add (.t 44) (.t 45)),
  .none⟩, ⟨(.some 47), (.mv (.t 2)), .none⟩, ⟨(.some 48), (.call (.f 55) [(.t 43), (.t 46), (.t 47)]), .none⟩, ⟨(.some 49), (.not (.t 48)), .none⟩]) (.cond (.t 49) (.seq (.reg [⟨(.some 6), (.mv (.k
  (.bool false))), .none⟩]) .ret) .skip)))))) (.reg [⟨(.some 50), (.bin .add (.t 15) (.k (.int .i64 1))), .none⟩, ⟨(.some 15), (.mv (.t 50)), .none⟩]))))))) (.seq (.reg [⟨(.some 6), (.mv (.k (.bool
  true))), .none⟩]) .ret)))
theorem c54 : Tryd.f54.body.bind (cCode Tryd.prog 51) = some a54 := by kernel_rfl
theorem r54 : Tryd.f54.results.toList = [(.tmp 6)] := by kernel_rfl
theorem n54 : Tryd.f54.ntmps = 51 := by kernel_rfl
theorem e54 : Enters Tryd.prog 54 := Go.Ab.enters_of Tryd.func54 (by kernel_rfl) (by kernel_rfl)

section
variable {P : Program} {g : FuncId} {id : Nat} {args : List AV} {bx bx1 : List (Nat × List AV)} {tp tp1 : List (Nat × TypeId)} {nx : Nat} {K : AV → List (Nat × List AV) → List (Nat × TypeId) → Nat → Prop}
/-- What is not used may be forgotten, ahead of a call. -/
theorem CallOK.forget (hb : bx1.Sublist bx) (ht : tp1.Sublist tp) (h : CallOK P g args bx1 tp1 nx K) : CallOK P g args bx tp nx K :=
  ⟨h.1, fun c w vs hm hn hr => h.2 c w vs (hm.forget hb ht) hn hr⟩
theorem YieldOK.forget (hb : bx1.Sublist bx) (ht : tp1.Sublist tp) (h : YieldOK P id args bx1 tp1 nx K) : YieldOK P id args bx tp nx K :=
  fun c w vs hm hn hr => h c w vs (hm.forget hb ht) hn hr
theorem YieldOK.post (h : YieldOK P id args bx tp nx fun r b t n => ∃ b1 t1, b1.Sublist b ∧ t1.Sublist t ∧ K r b1 t1 n) : YieldOK P id args bx tp nx K := by
  intro c w vs hm hn hr
  obtain ⟨f, tmps, assign, body, h1, h2⟩ := h c w vs hm hn hr
  refine ⟨f, tmps, assign, body, h1, h2.mono ?_⟩
  rintro e w' ⟨v, c', r, bx', tp', h1, h2, h3, h4, h5, h6, b1, t1, k1, k2, k3⟩
  exact ⟨v, c', r, b1, t1, h1, h2, h3, h4, h5.forget k1 k2, h6, k3⟩
/-- Forgetting, in a state. -/
theorem weak_forget {F : Nat} {sl sl1 : List (Nat × Option AV)} (hs : slotsSub sl sl1) (hb : bx1.Sublist bx) (ht : tp1.Sublist tp) : Weak P F ⟨sl, bx, tp, nx⟩ ⟨sl1, bx1, tp1, nx⟩ := by
  intro N c a w hfl hr
  refine ⟨c, Ext.refl _ _ _, rfl, fun t' av ht' => hr.slots t' av (slotsSub_look hs ht'), hr.size, hr.marks, hr.round, hr.low, hr.mem.forget hb ht, hr.next, hr.floor⟩
end

/-- A code as it is handed on. -/
def codeA (x : T3) : AV := .ag [.lit (.int .i32 ((x.1 : Nat) : Int)), .lit (.int .i64 ((x.2.1 : Nat) : Int)), .lit (.int .i64 ((x.2.2 : Nat) : Int))]

/-- Rounds that take codes one by one, up to some. -/
def Takes (id N : Nat) (J : List T3 → List (Nat × List AV) → List (Nat × TypeId) → Nat → Prop) : Prop :=
  (∀ acc bx tp nx nx', J acc bx tp nx → nx ≤ nx' → J acc bx tp nx') ∧
  ∀ acc c bx tp nx (K : AV → List (Nat × List AV) → List (Nat × TypeId) → Nat → Prop), acc.length < N → J acc bx tp nx →
    (∀ bx' tp' nx', J (acc ++ [c]) bx' tp' nx' → K (.lit (.bool true)) bx' tp' nx') → YieldOK Tryd.prog id [codeA c] bx tp nx K

theorem callGo_takes {id N : Nat} {J : List T3 → List (Nat × List AV) → List (Nat × TypeId) → Nat → Prop} (hT : Takes id N J) {acc : List T3} (c : T3) {bx : List (Nat × List AV)} {tp : List (Nat × TypeId)} {nx : Nat} {sl : List (Nat × Option AV)} {d : Option Nat} {K : State → Prop}
    (hN : acc.length < N) (hJ : J acc bx tp nx) (hK : ∀ bx' tp' nx', J (acc ++ [c]) bx' tp' nx' → K (State.put ⟨sl, bx', tp', nx'⟩ d (.lit (.bool true)))) : callGo Tryd.prog (some (.rf .yield id)) (some [codeA c]) d ⟨sl, bx, tp, nx⟩ K :=
  hT.2 acc c bx tp nx (fun r bx tp nx => K (State.put ⟨sl, bx, tp, nx⟩ d r)) hN hJ hK

set_option maxRecDepth 10000 in
theorem each_ok {id N : Nat} {J : List T3 → List (Nat × List AV) → List (Nat × TypeId) → Nat → Prop} (hT : Takes id N J) (b : List Nat) (at_ : Nat) (hb : ∀ n ∈ b, n ≤ 255) (hl : b.length ≤ 1099511627776) (hat : at_ ≤ 4398046511104)
    {acc : List T3} {bx : List (Nat × List AV)} {tp : List (Nat × TypeId)} {nx : Nat} {K : AV → List (Nat × List AV) → List (Nat × TypeId) → Nat → Prop} (hN : acc.length + b.length ≤ N) (hJ : J acc bx tp nx)
    (hK : ∀ bx' tp' nx', J (acc ++ eachT at_ b) bx' tp' nx' → K (.lit (.bool true)) bx' tp' nx') :
    CallOK Tryd.prog 55 [.lit (.string (txt b)), .lit (.int .i64 (at_ : Int)), .rf .yield id] bx tp nx K := by
  refine callOK_walk Tryd.func55 c55 n55 e55 r55 (by simp) ?_
  simp only [a55, astart, argSlots, go_sem, Nat.reduceAdd, Nat.reduceEqDiff, Nat.reduceLT, reduceIte, reduceCtorEq, Nat.reduceBEq, Int.reduceLT, Int.reduceToNat, Int.reducePow, Nat.reduceLeDiff, Int.reduceLE, Nat.reduceMul, Nat.reduceSub]
  refine loop_by (α := Nat × List (Nat × List AV) × List (Nat × TypeId) × Nat) (fun x => ⟨[(0, some (.lit (.string (txt b)))), (1, some (.lit (.int .i64 (at_ : Int)))), (2, some (.rf .yield id)), (10, some (.lit (.int .i64 (b.length : Int)))), (11, some (.lit (.int .i64 ((x.1 : Nat) : Int))))], x.2.1, x.2.2.1, x.2.2.2⟩)
    (fun x => x.1 ≤ b.length ∧ J (acc ++ eachT at_ (b.take x.1)) x.2.1 x.2.2.1 x.2.2.2) (fun x => b.length - x.1) (fun x y h => by
      have := congrArg (cnt 11) h
      simp [cnt, Ab.look] at this
      rw [this]) (0, bx, tp, nx) (weak_forget ?_ (List.Sublist.refl _) (List.Sublist.refl _)) ⟨by simp, by simpa [eachT] using hJ⟩ ?_
  · simp only [go_sem, Nat.reduceAdd, Nat.reduceEqDiff, Nat.reduceLT, reduceIte, reduceCtorEq, Nat.reduceBEq, Int.reduceLT, Int.reduceToNat, Int.reducePow, Nat.reduceLeDiff, Int.reduceLE, Nat.reduceMul, Nat.reduceSub, slotsBy, boxesBy, tipsBy, rawAt, nm, AV.ren, AV.renL, AV.under, AV.underL, List.all_nil, List.all_cons, bne_self_eq_false, List.getD_cons_zero, List.getD_cons_succ, List.length_nil, List.length_cons, and_true, true_and, slotsSub, Int.natCast_zero, txt_size]
  · rintro ⟨i, bx1, tp1, nx1⟩ ⟨hi, hj⟩
    simp only at hi hj
    simp only [go_sem, Nat.reduceAdd, Nat.reduceEqDiff, Nat.reduceLT, reduceIte, reduceCtorEq, Nat.reduceBEq, Int.reduceLT, Int.reduceToNat, Int.reducePow, Nat.reduceLeDiff, Int.reduceLE, Nat.reduceMul, Nat.reduceSub]
    rcases Nat.lt_or_eq_of_le hi with hlt | heq
    · have hbi := hb b[i] (List.getElem_mem hlt)
      have h1 : IntKind.i64.wrap ((i : Int) + 1) = ((i + 1 : Nat) : Int) := by rw [wrap_i64 _ (by omega) (by omega)]; omega
      have h2 : IntKind.i64.wrap ((at_ : Int) + (i : Int)) = ((at_ + i : Nat) : Int) := by rw [wrap_i64 _ (by omega) (by omega)]; omega
      have h3 : IntKind.i64.wrap (((at_ + i : Nat) : Int) + 1) = ((at_ + i + 1 : Nat) : Int) := by rw [wrap_i64 _ (by omega) (by omega)]; omega
      have h4 : IntKind.i32.wrap ((b[i] : Nat) : Int) = ((b[i] : Nat) : Int) := wrap_i32 _ (by omega) (by omega)
      simp only [dec_lt hlt, txt_get hlt, u8_int hbi, h1, h2, h3, h4, go_sem, Nat.reduceAdd, Nat.reduceEqDiff, Nat.reduceLT, reduceIte, reduceCtorEq, Nat.reduceBEq, Int.reduceLT, Int.reduceToNat, Int.reducePow, Nat.reduceLeDiff, Int.reduceLE, Nat.reduceMul, Nat.reduceSub]
      have hnext : acc ++ eachT at_ (b.take i) ++ [oneT (at_ + i) b[i]] = acc ++ eachT at_ (b.take (i + 1)) := by rw [eachT_take hlt, List.append_assoc]
      have hNi : (acc ++ eachT at_ (b.take i)).length < N := by rw [List.length_append, eachT_length, List.length_take]; omega
      refine cGo_split (fun h => ?_) (fun h => ?_)
      · simp only [decide_eq_true_eq] at h
        have e : AV.ag [.lit (.int .i32 65533), .lit (.int .i64 ((at_ + i : Nat) : Int)), .lit (.int .i64 ((at_ + i + 1 : Nat) : Int))] = codeA (oneT (at_ + i) b[i]) := by simp only [codeA, oneT, if_pos (show 127 < b[i] by omega)]; rfl
        simp only [h2, h3, go_sem, Nat.reduceAdd, Nat.reduceEqDiff, Nat.reduceLT, reduceIte, reduceCtorEq, Nat.reduceBEq, Int.reduceLT, Int.reduceToNat, Int.reducePow, Nat.reduceLeDiff, Int.reduceLE, Nat.reduceMul, Nat.reduceSub]
        rw [e]
        refine callGo_takes hT _ hNi hj fun bx2 tp2 nx2 hj2 => ?_
        rw [hnext] at hj2
        simp only [Bool.not_true, h1, go_sem, Nat.reduceAdd, Nat.reduceEqDiff, Nat.reduceLT, reduceIte, reduceCtorEq, Nat.reduceBEq, Int.reduceLT, Int.reduceToNat, Int.reducePow, Nat.reduceLeDiff, Int.reduceLE, Nat.reduceMul, Nat.reduceSub]
        refine ⟨(i + 1, bx2, tp2, nx2), weak_forget ?_ (List.Sublist.refl _) (List.Sublist.refl _), ⟨by omega, hj2⟩, by simp only; omega⟩
        simp only [go_sem, Nat.reduceAdd, Nat.reduceEqDiff, Nat.reduceLT, reduceIte, reduceCtorEq, Nat.reduceBEq, Int.reduceLT, Int.reduceToNat, Int.reducePow, Nat.reduceLeDiff, Int.reduceLE, Nat.reduceMul, Nat.reduceSub, slotsBy, boxesBy, tipsBy, rawAt, nm, AV.ren, AV.renL, AV.under, AV.underL, List.all_nil, List.all_cons, bne_self_eq_false, List.getD_cons_zero, List.getD_cons_succ, List.length_nil, List.length_cons, and_true, true_and, slotsSub]
      · simp only [decide_eq_false_iff_not] at h
        have e : AV.ag [.lit (.int .i32 ((b[i] : Nat) : Int)), .lit (.int .i64 ((at_ + i : Nat) : Int)), .lit (.int .i64 ((at_ + i + 1 : Nat) : Int))] = codeA (oneT (at_ + i) b[i]) := by simp only [codeA, oneT, if_neg (show ¬ 127 < b[i] by omega)]
        simp only [h2, h3, go_sem, Nat.reduceAdd, Nat.reduceEqDiff, Nat.reduceLT, reduceIte, reduceCtorEq, Nat.reduceBEq, Int.reduceLT, Int.reduceToNat, Int.reducePow, Nat.reduceLeDiff, Int.reduceLE, Nat.reduceMul, Nat.reduceSub]
        rw [e]
        refine callGo_takes hT _ hNi hj fun bx2 tp2 nx2 hj2 => ?_
        rw [hnext] at hj2
        simp only [Bool.not_true, h1, go_sem, Nat.reduceAdd, Nat.reduceEqDiff, Nat.reduceLT, reduceIte, reduceCtorEq, Nat.reduceBEq, Int.reduceLT, Int.reduceToNat, Int.reducePow, Nat.reduceLeDiff, Int.reduceLE, Nat.reduceMul, Nat.reduceSub]
        refine ⟨(i + 1, bx2, tp2, nx2), weak_forget ?_ (List.Sublist.refl _) (List.Sublist.refl _), ⟨by omega, hj2⟩, by simp only; omega⟩
        simp only [go_sem, Nat.reduceAdd, Nat.reduceEqDiff, Nat.reduceLT, reduceIte, reduceCtorEq, Nat.reduceBEq, Int.reduceLT, Int.reduceToNat, Int.reducePow, Nat.reduceLeDiff, Int.reduceLE, Nat.reduceMul, Nat.reduceSub, slotsBy, boxesBy, tipsBy, rawAt, nm, AV.ren, AV.renL, AV.under, AV.underL, List.all_nil, List.all_cons, bne_self_eq_false, List.getD_cons_zero, List.getD_cons_succ, List.length_nil, List.length_cons, and_true, true_and, slotsSub]
    · subst heq
      rw [List.take_length] at hj
      simp only [dec_irr, go_sem, Nat.reduceAdd, Nat.reduceEqDiff, Nat.reduceLT, reduceIte, reduceCtorEq, Nat.reduceBEq, Int.reduceLT, Int.reduceToNat, Int.reducePow, Nat.reduceLeDiff, Int.reduceLE, Nat.reduceMul, Nat.reduceSub]
      exact ⟨.inr trivial, _, by simp only [resAV, resL, resOne, go_sem, Nat.reduceAdd, Nat.reduceEqDiff, Nat.reduceLT, reduceIte, reduceCtorEq, Nat.reduceBEq, Int.reduceLT, Int.reduceToNat, Int.reducePow, Nat.reduceLeDiff, Int.reduceLE, Nat.reduceMul, Nat.reduceSub], hK _ _ _ hj⟩

theorem callGo_takes' {id N : Nat} {J : List T3 → List (Nat × List AV) → List (Nat × TypeId) → Nat → Prop} (hT : Takes id N J) {acc : List T3} (c : T3) {bx bx1 : List (Nat × List AV)} {tp tp1 : List (Nat × TypeId)} {nx nx1 : Nat} {sl : List (Nat × Option AV)} {d : Option Nat} {K : State → Prop}
    (hb : bx1.Sublist bx) (ht : tp1.Sublist tp) (hx : nx1 ≤ nx) (hN : acc.length < N) (hJ : J acc bx1 tp1 nx1) (hK : ∀ bx' tp' nx', J (acc ++ [c]) bx' tp' nx' → K (State.put ⟨sl, bx', tp', nx'⟩ d (.lit (.bool true)))) : callGo Tryd.prog (some (.rf .yield id)) (some [codeA c]) d ⟨sl, bx, tp, nx⟩ K :=
  YieldOK.forget hb ht (hT.2 acc c bx1 tp1 nx (fun r bx tp nx => K (State.put ⟨sl, bx, tp, nx⟩ d r)) hN (hT.1 _ _ _ _ _ hJ hx) hK)

theorem codesC_get (l : List (Nat × Nat × Nat × Bool)) (i : Nat) (h : i < l.length) : (codesC l)[i]? = some [.int .i32 ((l[i].1 : Nat) : Int), .int .i64 ((l[i].2.1 : Nat) : Int), .int .i64 ((l[i].2.2.1 : Nat) : Int)] := by simp [codesC, codeC, h]
theorem flat_take {l : List (Nat × Nat × Nat × Bool)} {i : Nat} (h : i < l.length) (f : Nat × Nat × Nat × Bool → List T3) : (l.take (i + 1)).flatMap f = (l.take i).flatMap f ++ f l[i] := by
  rw [List.take_succ_eq_append_getElem h, List.flatMap_append]; simp

set_option maxRecDepth 10000 in
theorem said_ok {id N : Nat} {J : List T3 → List (Nat × List AV) → List (Nat × TypeId) → Nat → Prop} (hT : Takes id N J) (b : List Nat) (at_ : Nat) (hb : ∀ n ∈ b, n ≤ 255) (hl : b.length ≤ 1099511627776) (hat : at_ ≤ 1099511627776) (hrow : 3 * (decP b).length ≤ b.length)
    {acc : List T3} {bx : List (Nat × List AV)} {tp : List (Nat × TypeId)} {nx : Nat} {K : AV → List (Nat × List AV) → List (Nat × TypeId) → Nat → Prop} (hN : acc.length + (saidT at_ b).length ≤ N) (hJ : J acc bx tp nx)
    (hK : ∀ bx' tp' nx', J (acc ++ saidT at_ b) bx' tp' nx' → K (.lit (.bool true)) bx' tp' nx') :
    CallOK Tryd.prog 54 [.lit (.string (txt b)), .lit (.int .i64 (at_ : Int)), .rf .yield id] bx tp nx K := by
  refine callOK_walk Tryd.func54 c54 n54 e54 r54 (by simp) ?_
  simp only [a54, astart, argSlots, go_sem, Nat.reduceAdd, Nat.reduceEqDiff, Nat.reduceLT, reduceIte, reduceCtorEq, Nat.reduceBEq, Int.reduceLT, Int.reduceToNat, Int.reducePow, Nat.reduceLeDiff, Int.reduceLE, Nat.reduceMul, Nat.reduceSub]
  refine callGo_pure (pctDecode_pure b hb hl) (by rfl) ?_
  simp only [go_sem, Nat.reduceAdd, Nat.reduceEqDiff, Nat.reduceLT, reduceIte, reduceCtorEq, Nat.reduceBEq, Int.reduceLT, Int.reduceToNat, Int.reducePow, Nat.reduceLeDiff, Int.reduceLE, Nat.reduceMul, Nat.reduceSub]
  refine callGo_pure (codes_pure _ (decP_le hb) (by omega)) (by rfl) ?_
  simp only [go_sem, Nat.reduceAdd, Nat.reduceEqDiff, Nat.reduceLT, reduceIte, reduceCtorEq, Nat.reduceBEq, Int.reduceLT, Int.reduceToNat, Int.reducePow, Nat.reduceLeDiff, Int.reduceLE, Nat.reduceMul, Nat.reduceSub, codesC_length]
  obtain ⟨L, hL⟩ : ∃ L, L = cut 0 (decP b) := ⟨_, rfl⟩
  have hsaid : saidT at_ b = L.flatMap (sayT b at_) := by rw [hL]; rfl
  have hLm : ∀ x ∈ L, x.2.1 < x.2.2.1 ∧ x.2.2.1 ≤ (decP b).length := fun x hx => cut_mem (by rw [← hL]; exact hx)
  have hLl : L.length ≤ (decP b).length := by rw [hL]; exact cut_length _ _
  rw [hsaid] at hN hK
  rw [← hL]
  clear hL
  refine loop_by (α := Nat × List (Nat × List AV) × List (Nat × TypeId) × Nat) (fun x => ⟨[(0, some (.lit (.string (txt b)))), (1, some (.lit (.int .i64 (at_ : Int)))), (2, some (.rf .yield id)), (13, some (.sl 42 (codesC L) none)), (14, some (.lit (.int .i64 (L.length : Int)))), (15, some (.lit (.int .i64 ((x.1 : Nat) : Int))))], x.2.1, x.2.2.1, x.2.2.2⟩)
    (fun x => x.1 ≤ L.length ∧ J (acc ++ (L.take x.1).flatMap (sayT b at_)) x.2.1 x.2.2.1 x.2.2.2) (fun x => L.length - x.1) (fun x y h => by
      have := congrArg (cnt 15) h
      simp [cnt, Ab.look] at this
      rw [this]) (0, bx, tp, nx + 1 + 1) ((weak_untip 13 rfl).trans (weak_forget ?_ (List.Sublist.refl _) ?_)) ⟨by simp, by simpa using hT.1 _ _ _ _ _ hJ (by omega)⟩ ?_
  · simp only [go_sem, Nat.reduceAdd, Nat.reduceEqDiff, Nat.reduceLT, reduceIte, reduceCtorEq, Nat.reduceBEq, Int.reduceLT, Int.reduceToNat, Int.reducePow, Nat.reduceLeDiff, Int.reduceLE, Nat.reduceMul, Nat.reduceSub, slotsBy, boxesBy, tipsBy, rawAt, nm, AV.ren, AV.renL, AV.under, AV.underL, List.all_nil, List.all_cons, bne_self_eq_false, List.getD_cons_zero, List.getD_cons_succ, List.length_nil, List.length_cons, and_true, true_and, slotsSub, Int.natCast_zero, txt_size]
  · exact .cons _ (.cons _ (List.Sublist.refl _))
  · rintro ⟨i, bx1, tp1, nx1⟩ ⟨hi, hj⟩
    simp only at hi hj
    simp only [go_sem, Nat.reduceAdd, Nat.reduceEqDiff, Nat.reduceLT, reduceIte, reduceCtorEq, Nat.reduceBEq, Int.reduceLT, Int.reduceToNat, Int.reducePow, Nat.reduceLeDiff, Int.reduceLE, Nat.reduceMul, Nat.reduceSub]
    rcases Nat.lt_or_eq_of_le hi with hlt | heq
    · have hm := hLm L[i] (List.getElem_mem hlt)
      have hg := codesC_get L i hlt
      have hfl := flat_take hlt (sayT b at_)
      have hpre := say_prefix b at_ (i + 1) L
      rw [hfl, List.length_append] at hpre
      generalize L[i] = x at hm hg hfl hpre
      obtain ⟨r, from_, to_, ok⟩ := x
      simp only at hm hg hfl hpre
      have h1 : IntKind.i64.wrap ((i : Int) + 1) = ((i + 1 : Nat) : Int) := by rw [wrap_i64 _ (by omega) (by omega)]; omega
      have w1 : IntKind.i64.wrap (3 * (from_ : Int)) = ((3 * from_ : Nat) : Int) := by rw [wrap_i64 _ (by omega) (by omega)]; omega
      have w2 : IntKind.i64.wrap (3 * (to_ : Int)) = ((3 * to_ : Nat) : Int) := by rw [wrap_i64 _ (by omega) (by omega)]; omega
      have w3 : IntKind.i64.wrap ((at_ : Int) + ((3 * from_ : Nat) : Int)) = ((at_ + 3 * from_ : Nat) : Int) := by rw [wrap_i64 _ (by omega) (by omega)]; omega
      have w4 : IntKind.i64.wrap ((at_ : Int) + ((3 * to_ : Nat) : Int)) = ((at_ + 3 * to_ : Nat) : Int) := by rw [wrap_i64 _ (by omega) (by omega)]; omega
      simp only [dec_lt hlt, hg, w1, w2, w3, w4, go_sem, Nat.reduceAdd, Nat.reduceEqDiff, Nat.reduceLT, reduceIte, reduceCtorEq, Nat.reduceBEq, Int.reduceLT, Int.reduceToNat, Int.reducePow, Nat.reduceLeDiff, Int.reduceLE, Nat.reduceMul, Nat.reduceSub, allOne, AV.one, Value.oneCell', Int.natCast_zero, Nat.le_refl]
      refine callGo_pure (safe_pure _) (by rfl) ?_
      cases hs : safeOf (r : Int)
      · have hsay : sayT b at_ (r, from_, to_, ok) = eachT (at_ + 3 * from_) ((b.take (3 * to_)).drop (3 * from_)) := by simp only [sayT, hs, Bool.false_eq_true, if_false]
        rw [hsay] at hfl hpre
        rw [eachT_length, List.length_drop, List.length_take] at hpre
        have hin : (if 3 * from_ ≤ 3 * to_ ∧ 3 * to_ ≤ b.length then some (3 * from_, 3 * to_) else none : Option (Nat × Nat)) = some (3 * from_, 3 * to_) := if_pos ⟨by omega, by omega⟩
        simp only [w3, txt_size, hin, txt_slice, go_sem, Nat.reduceAdd, Nat.reduceEqDiff, Nat.reduceLT, reduceIte, reduceCtorEq, Nat.reduceBEq, Int.reduceLT, Int.reduceToNat, Int.reducePow, Nat.reduceLeDiff, Int.reduceLE, Nat.reduceMul, Nat.reduceSub]
        refine callGo_ok (CallOK.forget (bx1 := bx1) (tp1 := tp1) (.cons _ (List.Sublist.refl _)) (List.Sublist.refl _) (each_ok hT _ _ (fun n hn => hb n (List.mem_of_mem_take (List.mem_of_mem_drop hn))) (by simp only [List.length_drop, List.length_take]; omega) (by omega) (by simp only [List.length_append, List.length_drop, List.length_take]; omega) (hT.1 _ _ _ _ _ hj (by omega)) fun bx2 tp2 nx2 hj2 => ?_))
        rw [List.append_assoc, ← hfl] at hj2
        simp only [Bool.not_true, h1, go_sem, Nat.reduceAdd, Nat.reduceEqDiff, Nat.reduceLT, reduceIte, reduceCtorEq, Nat.reduceBEq, Int.reduceLT, Int.reduceToNat, Int.reducePow, Nat.reduceLeDiff, Int.reduceLE, Nat.reduceMul, Nat.reduceSub]
        refine ⟨(i + 1, bx2, tp2, nx2), weak_forget ?_ (List.Sublist.refl _) (List.Sublist.refl _), ⟨by omega, hj2⟩, by simp only; omega⟩
        simp only [go_sem, Nat.reduceAdd, Nat.reduceEqDiff, Nat.reduceLT, reduceIte, reduceCtorEq, Nat.reduceBEq, Int.reduceLT, Int.reduceToNat, Int.reducePow, Nat.reduceLeDiff, Int.reduceLE, Nat.reduceMul, Nat.reduceSub, slotsBy, boxesBy, tipsBy, rawAt, nm, AV.ren, AV.renL, AV.under, AV.underL, List.all_nil, List.all_cons, bne_self_eq_false, List.getD_cons_zero, List.getD_cons_succ, List.length_nil, List.length_cons, and_true, true_and, slotsSub]
      · have hsay : sayT b at_ (r, from_, to_, ok) = [(r, at_ + 3 * from_, at_ + 3 * to_)] := by simp only [sayT, hs, if_true]
        rw [hsay] at hfl hpre
        simp only [List.length_cons, List.length_nil] at hpre
        simp only [w3, w4, go_sem, Nat.reduceAdd, Nat.reduceEqDiff, Nat.reduceLT, reduceIte, reduceCtorEq, Nat.reduceBEq, Int.reduceLT, Int.reduceToNat, Int.reducePow, Nat.reduceLeDiff, Int.reduceLE, Nat.reduceMul, Nat.reduceSub, allOne, AV.one, Value.oneCell', Int.natCast_zero, Nat.le_refl]
        refine callGo_takes' (bx1 := bx1) (tp1 := tp1) (nx1 := nx1) hT (r, at_ + 3 * from_, at_ + 3 * to_) (.cons _ (List.Sublist.refl _)) (List.Sublist.refl _) (by omega) (by rw [List.length_append]; omega) hj fun bx2 tp2 nx2 hj2 => ?_
        rw [List.append_assoc, ← hfl] at hj2
        simp only [Bool.not_true, h1, go_sem, Nat.reduceAdd, Nat.reduceEqDiff, Nat.reduceLT, reduceIte, reduceCtorEq, Nat.reduceBEq, Int.reduceLT, Int.reduceToNat, Int.reducePow, Nat.reduceLeDiff, Int.reduceLE, Nat.reduceMul, Nat.reduceSub]
        refine ⟨(i + 1, bx2, tp2, nx2), weak_forget ?_ (List.Sublist.refl _) (List.Sublist.refl _), ⟨by omega, hj2⟩, by simp only; omega⟩
        simp only [go_sem, Nat.reduceAdd, Nat.reduceEqDiff, Nat.reduceLT, reduceIte, reduceCtorEq, Nat.reduceBEq, Int.reduceLT, Int.reduceToNat, Int.reducePow, Nat.reduceLeDiff, Int.reduceLE, Nat.reduceMul, Nat.reduceSub, slotsBy, boxesBy, tipsBy, rawAt, nm, AV.ren, AV.renL, AV.under, AV.underL, List.all_nil, List.all_cons, bne_self_eq_false, List.getD_cons_zero, List.getD_cons_succ, List.length_nil, List.length_cons, and_true, true_and, slotsSub]
    · subst heq
      rw [List.take_length] at hj
      simp only [dec_irr, go_sem, Nat.reduceAdd, Nat.reduceEqDiff, Nat.reduceLT, reduceIte, reduceCtorEq, Nat.reduceBEq, Int.reduceLT, Int.reduceToNat, Int.reducePow, Nat.reduceLeDiff, Int.reduceLE, Nat.reduceMul, Nat.reduceSub]
      exact ⟨.inr trivial, _, by simp only [resAV, resL, resOne, go_sem, Nat.reduceAdd, Nat.reduceEqDiff, Nat.reduceLT, reduceIte, reduceCtorEq, Nat.reduceBEq, Int.reduceLT, Int.reduceToNat, Int.reducePow, Nat.reduceLeDiff, Int.reduceLE, Nat.reduceMul, Nat.reduceSub], hK _ _ _ hj⟩
end Go.Proofs.YteekelelcbfekaaDoor

/-! ## SafBD -/

namespace Go.Proofs.YteekelelcbfekaaDoor
open Go Go.Ab
def as51_0 : ACode :=
  (.reg [⟨(.some 5), (.alc 42 [(.int .i32 0), (.int .i64 0), (.int .i64 0)]), .none⟩, ⟨.none, (.st 3 (.t 5) (.t 7)), .none⟩])
def bd51_0 : ACode :=
  (.block 1 (.reg [⟨(.some 8), (.ld .none (.t 2)), .none⟩, ⟨(.some 9), (.ld (.some 3) (.t 5)), .none⟩, ⟨(.some 10), (.bs 42 3 [(.t 9)]), .none⟩, ⟨(.some 11), (.app 42 24 (.t 8) (.t 10)), .none⟩, ⟨.none,
  (.st 1 (.t 2) (.t 11)), .none⟩]))
theorem was51_0 (F : Nat) (Q : Exit → State → Prop) (s : State) : awp Tryd.prog F as51_0 Q s = awp Tryd.prog F ((.reg [⟨(.some 5), (.alc 42 [(.int .i32 0), (.int .i64 0), (.int .i64 0)]), .none⟩, ⟨.none, (.st 3 (.t 5) (.t 7)), .none⟩])) Q s := rfl
attribute [go_sem] was51_0
theorem wbd51_0 (F : Nat) (Q : Exit → State → Prop) (s : State) : awp Tryd.prog F bd51_0 Q s = awp Tryd.prog F ((.block 1 (.reg [⟨(.some 8), (.ld .none (.t 2)), .none⟩, ⟨(.some 9), (.ld (.some 3) (.t 5)), .none⟩, ⟨(.some 10), (.bs 42 3 [(.t 9)]), .none⟩, ⟨(.some 11), (.app 42 24 (.t 8) (.t 10)), .none⟩, ⟨.none,
  (.st 1 (.t 2) (.t 11)), .none⟩]))) Q s := rfl
attribute [go_sem] wbd51_0
def a51 : ACode :=
  (.seq (.reg [⟨(.some 2), (.box 35 (.t 0)), .none⟩, ⟨(.some 4), (.mv (.k (.slice .none 0 0))), .none⟩]) (.seq (.seq (.reg [⟨(.some 6), (.mv (.t 1)), .none⟩]) (.block 0 (.rfn (.t 6) 13 [7] as51_0
  bd51_0))) (.seq (.reg [⟨(.some 12), (.ld .none (.t 2)), .none⟩, ⟨(.some 4), (.mv (.t 12)), .none⟩]) .ret)))
theorem c51 : Tryd.f51.body.bind (cCode Tryd.prog 13) = some a51 := by kernel_rfl
theorem r51 : Tryd.f51.results.toList = [(.tmp 4)] := by kernel_rfl
theorem n51 : Tryd.f51.ntmps = 13 := by kernel_rfl
theorem e51 : Enters Tryd.prog 51 := Go.Ab.enters_of Tryd.func51 (by kernel_rfl) (by kernel_rfl)
def a33 : ACode :=
  (.seq (.reg [⟨(.some 2), (.mv (.k (.slice .none 0 0))), .none⟩]) (.seq (.reg [⟨(.some 3), (.mv (.t 0)), .none⟩, ⟨(.some 4), (.call (.f 51) [(.k (.slice .none 0 0)), (.t 3)]), .none⟩, ⟨(.some 2), (.mv
  (.t 4)), .none⟩]) .ret))
theorem c33 : Tryd.f33.body.bind (cCode Tryd.prog 5) = some a33 := by kernel_rfl
theorem r33 : Tryd.f33.results.toList = [(.tmp 2)] := by kernel_rfl
theorem n33 : Tryd.f33.ntmps = 5 := by kernel_rfl
theorem e33 : Enters Tryd.prog 33 := Go.Ab.enters_of Tryd.func33 (by kernel_rfl) (by kernel_rfl)
def a34 : ACode :=
  (.seq (.reg [⟨(.some 1), (.box 9 (.t 0)), .none⟩, ⟨(.some 2), (.mv (.k .nilFunc)), .none⟩]) (.seq (.reg [⟨(.some 3), (.mkf (.func 52) [] [(.t 1)]), .none⟩, ⟨(.some 2), (.mv (.t 3)), .none⟩]) .ret))
theorem c34 : Tryd.f34.body.bind (cCode Tryd.prog 4) = some a34 := by kernel_rfl
theorem r34 : Tryd.f34.results.toList = [(.tmp 2)] := by kernel_rfl
theorem n34 : Tryd.f34.ntmps = 4 := by kernel_rfl
theorem e34 : Enters Tryd.prog 34 := Go.Ab.enters_of Tryd.func34 (by kernel_rfl) (by kernel_rfl)
def a52 : ACode :=
  (.seq (.reg [⟨(.some 3), (.mv (.k (.int .i64 0))), .none⟩]) (.block 0 (.loop (.seq (.seq (.reg [⟨(.some 5), (.mv (.t 3)), .none⟩, ⟨(.some 6), (.ld .none (.t 1)), .none⟩, ⟨(.some 7), (.lenS (.t 6)),
  .none⟩, ⟨(.some 8), (.bin .lss (.t 5) (.t 7)), .none⟩]) (.cond (.t 8) .skip (.exit 0))) (.block 1 (.seq (.seq (.reg [⟨(.some 9), (.ld .none (.t 1)), .none⟩, ⟨(.some 10), (.mv (.t 3)), .none⟩, ⟨(.some
  11), (.slS (.t 9) (.some (.t 10)) .none), .none⟩, ⟨(.some 12), (.call (.f 53) [(.t 11)]), .none⟩, ⟨(.some 13), (.bin .mul (.k (.int .i64 3)) (.t 12)), .none⟩, ⟨(.some 4), (.mv (.t 13)), .none⟩]) (.seq
  (.reg [⟨(.some 14), (.mv (.t 4)), .none⟩, ⟨(.some 15), (.bin .gtr (.t 14) (.k (.int .i64 0))), .none⟩]) (.cond (.t 15) (.seq (.seq (.reg [⟨(.some 16), (.ld .none (.t 1)), .none⟩, ⟨(.some 17), (.mv (.t
  3)), .none⟩, ⟨(.some 18), (.mv (.t 3)), .none⟩, ⟨(.some 19), (.mv (.t 4)), .none⟩, ⟨(.some 20), (.bin .add (.t 18) (.t 19)), .none⟩, ⟨(.some 21), (.slS (.t 16) (.some (.t 17)) (.some (.t 20))),
  .none⟩, ⟨(.some 22), (.mv (.t 3)), .none⟩, ⟨(.some 23), (.mv (.t 0)), .none⟩, ⟨(.some 24), (.call (.f 54) [(.t 21), (.t 22), (.t 23)]), .none⟩, ⟨(.some 25), (.not (.t 24)), .none⟩]) (.cond (.t 25)
  .ret .skip)) (.seq (.reg [⟨(.some 26), (.mv (.t 3)), .none⟩, ⟨(.some 27), (.mv (.t 4)), .none⟩, ⟨(.some 28), (.bin .add (.t 26) (.t 27)), .none⟩, ⟨(.some 3), (.mv (.t 28)), .none⟩]) (.exit 1)))
  .skip))) (.seq (.seq (.reg [⟨(.some 29), (.ld .none (.t 1)), .none⟩, ⟨(.some 30), (.mv (.t 3)), .none⟩, ⟨(.some 31), (.mv (.t 3)), .none⟩, ⟨(.some 32), (.bin .add (.t 31) (.k (.int .i64 1))), .none⟩,
  ⟨(.some 33), (.slS (.t 29) (.some (.t 30)) (.some (.t 32))), .none⟩, ⟨(.some 34), (.mv (.t 3)), .none⟩, ⟨(.some 35), (.mv (.t 0)), .none⟩, ⟨(.some 36), (.call (.f 55) [(.t 33), (.t 34), (.t 35)]),
  .none⟩, ⟨(.some 37), (.not (.t 36)), .none⟩]) (.cond (.t 37) .ret .skip)) (.reg [⟨(.some 38), (.mv (.t 3)), .none⟩, ⟨(.some 39), (.bin .add (.t 38) (.k (.int .i64 1))), .none⟩, ⟨(.some 3), (.mv (.t
  39)), .none⟩]))))))))
theorem c52 : Tryd.f52.body.bind (cCode Tryd.prog 40) = some a52 := by kernel_rfl
theorem r52 : Tryd.f52.results.toList = [] := by kernel_rfl
theorem n52 : Tryd.f52.ntmps = 40 := by kernel_rfl
theorem e52 : Enters Tryd.prog 52 := Go.Ab.enters_of Tryd.func52 (by kernel_rfl) (by kernel_rfl)
def a16 : ACode :=
  (.seq (.reg [⟨(.some 2), (.mv (.k (.slice .none 0 0))), .none⟩]) (.seq (.reg [⟨(.some 3), (.mv (.t 0)), .none⟩, ⟨(.some 4), (.call (.f 34) [(.t 3)]), .none⟩, ⟨(.some 5), (.call (.f 33) [(.t 4)]),
  .none⟩, ⟨(.some 2), (.mv (.t 5)), .none⟩]) .ret))
theorem c16 : Tryd.f16.body.bind (cCode Tryd.prog 6) = some a16 := by kernel_rfl
theorem r16 : Tryd.f16.results.toList = [(.tmp 2)] := by kernel_rfl
theorem n16 : Tryd.f16.ntmps = 6 := by kernel_rfl
theorem e16 : Enters Tryd.prog 16 := Go.Ab.enters_of Tryd.func16 (by kernel_rfl) (by kernel_rfl)

/-- The loop over the codes, as a thing in a box. -/
def shL : LInfo := ⟨13, [2], [7], as51_0, bd51_0, .ready, none⟩
/-- The boxes where codes are taken. -/
def shB (b : List Nat) (acc : List T3) (t : Nat) : List (Nat × List AV) := [(2, [.ob (.loop shL) [.bp 1 0]]), (1, [.sl 42 (codesT acc) (some t)]), (0, [.lit (.string (txt b))])]
def shJ (b : List Nat) (acc : List T3) (bx : List (Nat × List AV)) (tp : List (Nat × TypeId)) (nx : Nat) : Prop :=
  ∃ t, (2 < t ∧ t < nx) ∧ bx = shB b acc t ∧ tp = [(t, 42)]

theorem codesT_snoc (acc : List T3) (c : T3) : codesT acc ++ [[.int .i32 ((c.1 : Nat) : Int), .int .i64 ((c.2.1 : Nat) : Int), .int .i64 ((c.2.2 : Nat) : Int)]] = codesT (acc ++ [c]) := by simp [codesT]

set_option maxRecDepth 10000 in
theorem sh_takes (b : List Nat) : Takes 2 1099511627776 (shJ b) := by
  refine ⟨fun acc bx tp nx nx' h hx => ?_, fun acc c bx tp nx K hN hJ hK => ?_⟩
  · obtain ⟨t, h1, h2, h3⟩ := h
    exact ⟨t, ⟨h1.1, by omega⟩, h2, h3⟩
  · obtain ⟨t, ⟨h0, h1⟩, rfl, rfl⟩ := hJ
    refine YieldOK.post ?_
    refine yield_awp (i := shL) (cells := [.bp 1 0]) (by simp only [shB, go_sem, Nat.reduceAdd, Nat.reduceEqDiff, Nat.reduceLT, reduceIte, reduceCtorEq, Nat.reduceBEq, Int.reduceLT, Int.reduceToNat, Int.reducePow, Nat.reduceLeDiff, Int.reduceLE, Nat.reduceMul, Nat.reduceSub]) rfl rfl ?_
    have e1 : (nx + 1 = t) = False := eq_false (by omega)
    have e2 : (nx = 2) = False := eq_false (by omega)
    have e3 : (nx = 1) = False := eq_false (by omega)
    have e4 : (nx = 0) = False := eq_false (by omega)
    simp only [shL, shB, codeA, go_sem, Nat.reduceAdd, Nat.reduceEqDiff, Nat.reduceLT, reduceIte, reduceCtorEq, Nat.reduceBEq, Int.reduceLT, Int.reduceToNat, Int.reducePow, Nat.reduceLeDiff, Int.reduceLE, Nat.reduceMul, Nat.reduceSub, e1, e2, e3, e4, allOne, AV.one, Value.oneCell', Int.natCast_zero, Nat.le_refl]
    refine ⟨⟨by rw [codesT_length]; omega, by rw [codesT_length]; omega⟩, shB b (acc ++ [c]) (nx + 1 + 1), [(nx + 1 + 1, 42)], ?_, .cons_cons _ (.cons _ .slnil), hK _ _ _ ⟨nx + 1 + 1, ⟨by omega, by omega⟩, rfl, rfl⟩⟩
    rw [codesT_snoc]
    exact .cons _ (List.Sublist.refl _)

set_option maxRecDepth 10000 in
theorem show_pure (b : List Nat) (hb : ∀ n ∈ b, n ≤ 255) (hl : b.length ≤ 1000000) : Pure Tryd.prog 16 [.lit (.string (txt b))] [42] (.sl 42 (codesT (showT 0 b)) (some 0)) := by
  refine pure1 Tryd.func16 c16 n16 e16 r16 (by simp) ?_
  simp only [a16, astart, argSlots, go_sem, Nat.reduceAdd, Nat.reduceEqDiff, Nat.reduceLT, reduceIte, reduceCtorEq, Nat.reduceBEq, Int.reduceLT, Int.reduceToNat, Int.reducePow, Nat.reduceLeDiff, Int.reduceLE, Nat.reduceMul, Nat.reduceSub]
  refine callGo_walk Tryd.func34 c34 n34 e34 r34 (by simp) ?_
  simp only [a34, astart, argSlots, go_sem, Nat.reduceAdd, Nat.reduceEqDiff, Nat.reduceLT, reduceIte, reduceCtorEq, Nat.reduceBEq, Int.reduceLT, Int.reduceToNat, Int.reducePow, Nat.reduceLeDiff, Int.reduceLE, Nat.reduceMul, Nat.reduceSub, allOne, AV.one]
  refine ⟨by simp, _, rfl, ?_⟩
  refine callGo_walk Tryd.func33 c33 n33 e33 r33 (by simp) ?_
  simp only [a33, astart, argSlots, go_sem, Nat.reduceAdd, Nat.reduceEqDiff, Nat.reduceLT, reduceIte, reduceCtorEq, Nat.reduceBEq, Int.reduceLT, Int.reduceToNat, Int.reducePow, Nat.reduceLeDiff, Int.reduceLE, Nat.reduceMul, Nat.reduceSub, allOne, AV.one]
  refine callGo_walk Tryd.func51 c51 n51 e51 r51 (by simp) ?_
  simp only [a51, astart, argSlots, go_sem, Nat.reduceAdd, Nat.reduceEqDiff, Nat.reduceLT, reduceIte, reduceCtorEq, Nat.reduceBEq, Int.reduceLT, Int.reduceToNat, Int.reducePow, Nat.reduceLeDiff, Int.reduceLE, Nat.reduceMul, Nat.reduceSub, allOne, AV.one, Value.oneCell']
  refine rfnGo_call [2] _ rfl ?_
  refine callOK_walk Tryd.func52 c52 n52 e52 r52 (by simp) ?_
  simp only [a52, astart, argSlots, go_sem, Nat.reduceAdd, Nat.reduceEqDiff, Nat.reduceLT, reduceIte, reduceCtorEq, Nat.reduceBEq, Int.reduceLT, Int.reduceToNat, Int.reducePow, Nat.reduceLeDiff, Int.reduceLE, Nat.reduceMul, Nat.reduceSub]
  refine loop_by (α := Nat × List T3 × Nat × Nat) (fun x => ⟨[(0, some (.rf .yield 2)), (1, some (.bp 0 0)), (3, some (.lit (.int .i64 ((x.1 : Nat) : Int))))], shB b x.2.1 x.2.2.1, [(x.2.2.1, 42)], x.2.2.2⟩)
    (fun x => x.1 ≤ b.length ∧ x.2.1.length ≤ x.1 ∧ showT 0 b = x.2.1 ++ showT x.1 (b.drop x.1) ∧ 2 < x.2.2.1 ∧ x.2.2.1 < x.2.2.2) (fun x => b.length - x.1) (fun x y h => by
      have := congrArg (cnt 3) h
      simp [cnt, Ab.look] at this
      rw [this]) (0, [], 3, 4) ((weak_nil_box 1 0 42 (cells := [.lit (.slice none 0 0)]) (by simp only [go_sem, Nat.reduceAdd, Nat.reduceEqDiff, Nat.reduceLT, reduceIte, reduceCtorEq, Nat.reduceBEq, Int.reduceLT, Int.reduceToNat, Int.reducePow, Nat.reduceLeDiff, Int.reduceLE, Nat.reduceMul, Nat.reduceSub]) rfl).trans (weak_by [0, 1, 2, 3] (by simp) rfl ?_ ?_ ?_ ?_)) ⟨by simp, by simp, rfl, by simp, by simp⟩ ?_
  · simp only [go_sem, Nat.reduceAdd, Nat.reduceEqDiff, Nat.reduceLT, reduceIte, reduceCtorEq, Nat.reduceBEq, Int.reduceLT, Int.reduceToNat, Int.reducePow, Nat.reduceLeDiff, Int.reduceLE, Nat.reduceMul, Nat.reduceSub, slotsBy, boxesBy, tipsBy, rawAt, nm, AV.ren, AV.renL, AV.under, AV.underL, List.all_nil, List.all_cons, bne_self_eq_false, List.getD_cons_zero, List.getD_cons_succ, List.length_nil, List.length_cons, and_true, true_and, Int.natCast_zero]
  · simp only [shB, shL, codesT, go_sem, Nat.reduceAdd, Nat.reduceEqDiff, Nat.reduceLT, reduceIte, reduceCtorEq, Nat.reduceBEq, Int.reduceLT, Int.reduceToNat, Int.reducePow, Nat.reduceLeDiff, Int.reduceLE, Nat.reduceMul, Nat.reduceSub, slotsBy, boxesBy, tipsBy, rawAt, nm, AV.ren, AV.renL, AV.under, AV.underL, List.all_nil, List.all_cons, bne_self_eq_false, List.getD_cons_zero, List.getD_cons_succ, List.length_nil, List.length_cons, and_true, true_and]
    simp
  · simp only [go_sem, Nat.reduceAdd, Nat.reduceEqDiff, Nat.reduceLT, reduceIte, reduceCtorEq, Nat.reduceBEq, Int.reduceLT, Int.reduceToNat, Int.reducePow, Nat.reduceLeDiff, Int.reduceLE, Nat.reduceMul, Nat.reduceSub, slotsBy, boxesBy, tipsBy, rawAt, nm, AV.ren, AV.renL, AV.under, AV.underL, List.all_nil, List.all_cons, bne_self_eq_false, List.getD_cons_zero, List.getD_cons_succ, List.length_nil, List.length_cons, and_true, true_and, beq_self_eq_true]
  · refine ⟨by simp, fun i hi => ?_⟩
    match i, hi with
    | 0, _ => rfl
    | 1, _ => rfl
    | 2, _ => rfl
  · rintro ⟨i, acc, t, nx⟩ ⟨hi, hlen, hshow, ht2, htn⟩
    simp only at hi hlen hshow ht2 htn
    simp only [shB, go_sem, Nat.reduceAdd, Nat.reduceEqDiff, Nat.reduceLT, reduceIte, reduceCtorEq, Nat.reduceBEq, Int.reduceLT, Int.reduceToNat, Int.reducePow, Nat.reduceLeDiff, Int.reduceLE, Nat.reduceMul, Nat.reduceSub]
    rcases Nat.lt_or_eq_of_le hi with hlt | heq
    · have hr : ∀ n ∈ b.drop i, n ≤ 255 := fun n hn => hb n (List.mem_of_mem_drop hn)
      have hin : (if i ≤ b.length ∧ b.length ≤ b.length then some (i, b.length) else none : Option (Nat × Nat)) = some (i, b.length) := if_pos ⟨hi, Nat.le_refl _⟩
      simp only [txt_size, dec_lt hlt, hin, txt_tail, go_sem, Nat.reduceAdd, Nat.reduceEqDiff, Nat.reduceLT, reduceIte, reduceCtorEq, Nat.reduceBEq, Int.reduceLT, Int.reduceToNat, Int.reducePow, Nat.reduceLeDiff, Int.reduceLE, Nat.reduceMul, Nat.reduceSub]
      refine callGo_pure (row_pure _ hr (by rw [List.length_drop]; omega)) (by rfl) ?_
      have hrow := rowN_le (b.drop i)
      rw [List.length_drop] at hrow
      have w1 : IntKind.i64.wrap (3 * ((rowN (b.drop i) : Nat) : Int)) = ((3 * rowN (b.drop i) : Nat) : Int) := by rw [wrap_i64 _ (by omega) (by omega)]; omega
      simp only [w1, go_sem, Nat.reduceAdd, Nat.reduceEqDiff, Nat.reduceLT, reduceIte, reduceCtorEq, Nat.reduceBEq, Int.reduceLT, Int.reduceToNat, Int.reducePow, Nat.reduceLeDiff, Int.reduceLE, Nat.reduceMul, Nat.reduceSub]
      cases hc : isC (b.drop i)
      · have hn0 := rowN_plain hc
        have a0 : decide (((3 * 0 : Nat) : Int) > 0) = false := by simp
        have h1 : IntKind.i64.wrap ((i : Int) + 1) = ((i + 1 : Nat) : Int) := by rw [wrap_i64 _ (by omega) (by omega)]; omega
        have hin1 : (if i ≤ i + 1 ∧ i + 1 ≤ b.length then some (i, i + 1) else none : Option (Nat × Nat)) = some (i, i + 1) := if_pos ⟨by omega, by omega⟩
        have hsl : (b.take (i + 1)).drop i = [b[i]] := by
          rw [List.take_succ_eq_append_getElem hlt, List.drop_append_of_le_length (by rw [List.length_take]; omega), List.drop_of_length_le (by rw [List.length_take]; omega)]; rfl
        rw [List.drop_eq_getElem_cons hlt] at hc hshow
        rw [showT_one hc] at hshow
        rw [hn0]
        simp only [a0, h1, txt_size, hin1, txt_slice, hsl, go_sem, Nat.reduceAdd, Nat.reduceEqDiff, Nat.reduceLT, reduceIte, reduceCtorEq, Nat.reduceBEq, Int.reduceLT, Int.reduceToNat, Int.reducePow, Nat.reduceLeDiff, Int.reduceLE, Nat.reduceMul, Nat.reduceSub]
        refine callGo_ok (each_ok (sh_takes b) _ _ (fun n hn => by simp at hn; subst hn; exact hb _ (List.getElem_mem hlt)) (by simp) (by omega) (acc := acc) (by simp only [List.length_cons, List.length_nil]; omega) ⟨t, ⟨ht2, htn⟩, rfl, rfl⟩ ?_)
        rintro bx2 tp2 nx2 ⟨t2, ⟨g1, g2⟩, rfl, rfl⟩
        simp only [Bool.not_true, h1, go_sem, Nat.reduceAdd, Nat.reduceEqDiff, Nat.reduceLT, reduceIte, reduceCtorEq, Nat.reduceBEq, Int.reduceLT, Int.reduceToNat, Int.reducePow, Nat.reduceLeDiff, Int.reduceLE, Nat.reduceMul, Nat.reduceSub]
        refine ⟨(i + 1, acc ++ eachT i [b[i]], t2, nx2), weak_forget ?_ (List.Sublist.refl _) (List.Sublist.refl _), ⟨by omega, by rw [List.length_append, eachT_length, List.length_cons, List.length_nil]; omega, by rw [hshow]; simp [eachT], g1, g2⟩, by simp only; omega⟩
        simp only [go_sem, Nat.reduceAdd, Nat.reduceEqDiff, Nat.reduceLT, reduceIte, reduceCtorEq, Nat.reduceBEq, Int.reduceLT, Int.reduceToNat, Int.reducePow, Nat.reduceLeDiff, Int.reduceLE, Nat.reduceMul, Nat.reduceSub, slotsBy, boxesBy, tipsBy, rawAt, nm, AV.ren, AV.renL, AV.under, AV.underL, List.all_nil, List.all_cons, bne_self_eq_false, List.getD_cons_zero, List.getD_cons_succ, List.length_nil, List.length_cons, and_true, true_and, slotsSub]
      · have hn0 := rowN_pos.2 hc
        have hlen2 := said_row_len i (b.drop i)
        have hdr := dec_row (b.drop i)
        rw [showT_row hc, List.drop_drop] at hshow
        have hsl0 : (b.take (i + 3 * rowN (b.drop i))).drop i = (b.drop i).take (3 * rowN (b.drop i)) := by rw [List.drop_take]; congr 1; omega
        have hr2 : ∀ n ∈ (b.drop i).take (3 * rowN (b.drop i)), n ≤ 255 := fun n hn => hr n (List.mem_of_mem_take hn)
        have hl2 : ((b.drop i).take (3 * rowN (b.drop i))).length = 3 * rowN (b.drop i) := by rw [List.length_take, List.length_drop]; omega
        generalize (b.drop i).take (3 * rowN (b.drop i)) = q at hlen2 hdr hshow hsl0 hr2 hl2
        generalize rowN (b.drop i) = n at hn0 hlen2 hdr hshow hsl0 hl2 hrow
        have a0 : decide (((3 * n : Nat) : Int) > 0) = true := by simp only [decide_eq_true_eq]; omega
        have h1 : IntKind.i64.wrap ((i : Int) + ((3 * n : Nat) : Int)) = ((i + 3 * n : Nat) : Int) := by rw [wrap_i64 _ (by omega) (by omega)]; omega
        have hin1 : (if i ≤ i + 3 * n ∧ i + 3 * n ≤ b.length then some (i, i + 3 * n) else none : Option (Nat × Nat)) = some (i, i + 3 * n) := if_pos ⟨by omega, by omega⟩
        simp only [a0, h1, txt_size, hin1, txt_slice, hsl0, go_sem, Nat.reduceAdd, Nat.reduceEqDiff, Nat.reduceLT, reduceIte, reduceCtorEq, Nat.reduceBEq, Int.reduceLT, Int.reduceToNat, Int.reducePow, Nat.reduceLeDiff, Int.reduceLE, Nat.reduceMul, Nat.reduceSub]
        refine callGo_ok (said_ok (sh_takes b) _ _ hr2 (by omega) (by omega) (by omega) (acc := acc) (by omega) ⟨t, ⟨ht2, htn⟩, rfl, rfl⟩ ?_)
        rintro bx2 tp2 nx2 ⟨t2, ⟨g1, g2⟩, rfl, rfl⟩
        simp only [Bool.not_true, h1, go_sem, Nat.reduceAdd, Nat.reduceEqDiff, Nat.reduceLT, reduceIte, reduceCtorEq, Nat.reduceBEq, Int.reduceLT, Int.reduceToNat, Int.reducePow, Nat.reduceLeDiff, Int.reduceLE, Nat.reduceMul, Nat.reduceSub]
        refine ⟨(i + 3 * n, acc ++ saidT i q, t2, nx2), weak_forget ?_ (List.Sublist.refl _) (List.Sublist.refl _), ⟨by omega, by rw [List.length_append]; omega, by rw [hshow]; simp, g1, g2⟩, by simp only; omega⟩
        simp only [go_sem, Nat.reduceAdd, Nat.reduceEqDiff, Nat.reduceLT, reduceIte, reduceCtorEq, Nat.reduceBEq, Int.reduceLT, Int.reduceToNat, Int.reducePow, Nat.reduceLeDiff, Int.reduceLE, Nat.reduceMul, Nat.reduceSub, slotsBy, boxesBy, tipsBy, rawAt, nm, AV.ren, AV.renL, AV.under, AV.underL, List.all_nil, List.all_cons, bne_self_eq_false, List.getD_cons_zero, List.getD_cons_succ, List.length_nil, List.length_cons, and_true, true_and, slotsSub]
    · subst heq
      rw [List.drop_length, showT_nil, List.append_nil] at hshow
      rw [hshow]
      simp only [txt_size, dec_irr, go_sem, Nat.reduceAdd, Nat.reduceEqDiff, Nat.reduceLT, reduceIte, reduceCtorEq, Nat.reduceBEq, Int.reduceLT, Int.reduceToNat, Int.reducePow, Nat.reduceLeDiff, Int.reduceLE, Nat.reduceMul, Nat.reduceSub]
      refine ⟨by simp, _, rfl, ?_⟩
      simp only [rfnPost, shL, go_sem, Nat.reduceAdd, Nat.reduceEqDiff, Nat.reduceLT, reduceIte, reduceCtorEq, Nat.reduceBEq, Int.reduceLT, Int.reduceToNat, Int.reducePow, Nat.reduceLeDiff, Int.reduceLE, Nat.reduceMul, Nat.reduceSub]
      refine ⟨.inr trivial, _, by simp only [resAV, resL, resOne, go_sem, Nat.reduceAdd, Nat.reduceEqDiff, Nat.reduceLT, reduceIte, reduceCtorEq, Nat.reduceBEq, Int.reduceLT, Int.reduceToNat, Int.reducePow, Nat.reduceLeDiff, Int.reduceLE, Nat.reduceMul, Nat.reduceSub]; rfl, .inr trivial, _, by simp only [resAV, resL, resOne, go_sem, Nat.reduceAdd, Nat.reduceEqDiff, Nat.reduceLT, reduceIte, reduceCtorEq, Nat.reduceBEq, Int.reduceLT, Int.reduceToNat, Int.reducePow, Nat.reduceLeDiff, Int.reduceLE, Nat.reduceMul, Nat.reduceSub]; rfl, ?_⟩
      exact ⟨.inr rfl, t, by simp only [resAV, resL, resOne, go_sem, Nat.reduceAdd, Nat.reduceEqDiff, Nat.reduceLT, reduceIte, reduceCtorEq, Nat.reduceBEq, Int.reduceLT, Int.reduceToNat, Int.reducePow, Nat.reduceLeDiff, Int.reduceLE, Nat.reduceMul, Nat.reduceSub], by simp [go_sem, Nat.reduceAdd, Nat.reduceEqDiff, Nat.reduceLT, reduceIte, reduceCtorEq, Nat.reduceBEq, Int.reduceLT, Int.reduceToNat, Int.reducePow, Nat.reduceLeDiff, Int.reduceLE, Nat.reduceMul, Nat.reduceSub]⟩
end Go.Proofs.YteekelelcbfekaaDoor

/-! ## SafCD -/

namespace Go.Proofs.YteekelelcbfekaaDoor
open Go Go.Ab
def a15 : ACode :=
  (.seq (.reg [⟨(.some 2), (.mv (.k (.slice .none 0 0))), .none⟩]) (.seq (.reg [⟨(.some 3), (.mv (.k (.slice .none 0 0))), .none⟩]) (.seq (.seq (.reg [⟨(.some 6), (.mv (.t 0)), .none⟩, ⟨(.some 7), (.len
  (.t 6)), .none⟩, ⟨(.some 8), (.mv (.k (.int .i64 0))), .none⟩]) (.block 0 (.loop (.seq (.reg [⟨(.some 9), (.bin .lss (.t 8) (.t 7)), .none⟩]) (.seq (.cond (.t 9) .skip (.exit 0)) (.seq (.block 1 (.seq
  (.reg [⟨(.some 10), (.ia 42 (.t 6) (.t 8)), .none⟩, ⟨(.some 11), (.ld (.some 3) (.t 10)), .none⟩, ⟨(.some 5), (.alc 42 [(.int .i32 0), (.int .i64 0), (.int .i64 0)]), .none⟩, ⟨.none, (.st 3 (.t 5) (.t
  11)), .none⟩]) (.reg [⟨(.some 12), (.mv (.t 3)), .none⟩, ⟨(.some 13), (.fa 0 (.t 5)), .none⟩, ⟨(.some 14), (.ld .none (.t 13)), .none⟩, ⟨(.some 15), (.bs 21 1 [(.t 14)]), .none⟩, ⟨(.some 16), (.app 21
  4 (.t 12) (.t 15)), .none⟩, ⟨(.some 3), (.mv (.t 16)), .none⟩]))) (.reg [⟨(.some 17), (.bin .add (.t 8) (.k (.int .i64 1))), .none⟩, ⟨(.some 8), (.mv (.t 17)), .none⟩]))))))) (.seq (.reg [⟨(.some 18),
  (.mv (.t 3)), .none⟩, ⟨(.some 2), (.mv (.t 18)), .none⟩]) .ret))))
theorem c15 : Tryd.f15.body.bind (cCode Tryd.prog 19) = some a15 := by kernel_rfl
theorem r15 : Tryd.f15.results.toList = [(.tmp 2)] := by kernel_rfl
theorem n15 : Tryd.f15.ntmps = 19 := by kernel_rfl
theorem e15 : Enters Tryd.prog 15 := Go.Ab.enters_of Tryd.func15 (by kernel_rfl) (by kernel_rfl)
/-- The code points of codes. -/
def rOf (l : List T3) : List Int := l.map fun x => ((x.1 : Nat) : Int)
theorem rOf_take {l : List T3} {i : Nat} (h : i < l.length) : rOf (l.take (i + 1)) = rOf (l.take i) ++ [((l[i].1 : Nat) : Int)] := by
  rw [List.take_succ_eq_append_getElem h, rOf, List.map_append]; rfl

set_option maxRecDepth 10000 in
theorem safeRunes_pure (l : List T3) (hl : l.length ≤ 1000000000) : Pure Tryd.prog 15 [.sl 42 (codesT l) none] [21] (.sl 21 (runes (rOf l)) (some 0)) := by
  refine pure1 Tryd.func15 c15 n15 e15 r15 (by simp) ?_
  simp only [a15, astart, argSlots, go_sem, Nat.reduceAdd, Nat.reduceEqDiff, Nat.reduceLT, reduceIte, reduceCtorEq, Nat.reduceBEq, Int.reduceLT, Int.reduceToNat, Int.reducePow, Nat.reduceLeDiff, Int.reduceLE, Nat.reduceMul, Nat.reduceSub, codesT_length]
  refine loop_to l.length (fun i => ⟨[(3, some (.sl 21 (runes (rOf (l.take i))) (some 0))), (6, some (.sl 42 (codesT l) none)), (7, some (.lit (.int .i64 (l.length : Int)))), (8, some (.lit (.int .i64 (i : Int))))], [], [(0, 21)], 1⟩)
    (fun _ => True) ((weak_nil 3 21 (by simp only [go_sem, Nat.reduceAdd, Nat.reduceEqDiff, Nat.reduceLT, reduceIte, reduceCtorEq, Nat.reduceBEq, Int.reduceLT, Int.reduceToNat, Int.reducePow, Nat.reduceLeDiff, Int.reduceLE, Nat.reduceMul, Nat.reduceSub])).trans (weak_by [0] (by simp) rfl ?_ trivial ?_ (by simp))) trivial ?_ ?_
  · simp only [go_sem, Nat.reduceAdd, Nat.reduceEqDiff, Nat.reduceLT, reduceIte, reduceCtorEq, Nat.reduceBEq, Int.reduceLT, Int.reduceToNat, Int.reducePow, Nat.reduceLeDiff, Int.reduceLE, Nat.reduceMul, Nat.reduceSub, slotsBy, boxesBy, tipsBy, rawAt, nm, AV.ren, AV.renL, AV.under, AV.underL, List.all_nil, List.all_cons, bne_self_eq_false, List.getD_cons_zero, List.getD_cons_succ, List.length_nil, List.length_cons, and_true, true_and, List.take_zero, rOf, runes, List.map_nil, Int.natCast_zero]
  · simp only [go_sem, Nat.reduceAdd, Nat.reduceEqDiff, Nat.reduceLT, reduceIte, reduceCtorEq, Nat.reduceBEq, Int.reduceLT, Int.reduceToNat, Int.reducePow, Nat.reduceLeDiff, Int.reduceLE, Nat.reduceMul, Nat.reduceSub, slotsBy, boxesBy, tipsBy, rawAt, nm, AV.ren, AV.renL, AV.under, AV.underL, List.all_nil, List.all_cons, bne_self_eq_false, List.getD_cons_zero, List.getD_cons_succ, List.length_nil, List.length_cons, and_true, true_and, beq_self_eq_true]
  · intro i hi _
    have h1 : IntKind.i64.wrap ((i : Int) + 1) = ((i + 1 : Nat) : Int) := by rw [wrap_i64 _ (by omega) (by omega)]; omega
    have hlen : (rOf (l.take i)).length ≤ i := by simp only [rOf, List.length_map, List.length_take]; omega
    simp only [dec_lt hi, codesT_get l i hi, go_sem, Nat.reduceAdd, Nat.reduceEqDiff, Nat.reduceLT, reduceIte, reduceCtorEq, Nat.reduceBEq, Int.reduceLT, Int.reduceToNat, Int.reducePow, Nat.reduceLeDiff, Int.reduceLE, Nat.reduceMul, Nat.reduceSub, allOne, AV.one, Value.oneCell', Int.natCast_zero, Nat.le_refl, h1]
    refine ⟨⟨by omega, by omega⟩, weak_by [3] (by simp) rfl ?_ trivial ?_ (by simp)⟩
    · simp only [go_sem, Nat.reduceAdd, Nat.reduceEqDiff, Nat.reduceLT, reduceIte, reduceCtorEq, Nat.reduceBEq, Int.reduceLT, Int.reduceToNat, Int.reducePow, Nat.reduceLeDiff, Int.reduceLE, Nat.reduceMul, Nat.reduceSub, slotsBy, boxesBy, tipsBy, rawAt, nm, AV.ren, AV.renL, AV.under, AV.underL, List.all_nil, List.all_cons, bne_self_eq_false, List.getD_cons_zero, List.getD_cons_succ, List.length_nil, List.length_cons, and_true, true_and, rOf_take hi, runes_append]
      rfl
    · simp only [go_sem, Nat.reduceAdd, Nat.reduceEqDiff, Nat.reduceLT, reduceIte, reduceCtorEq, Nat.reduceBEq, Int.reduceLT, Int.reduceToNat, Int.reducePow, Nat.reduceLeDiff, Int.reduceLE, Nat.reduceMul, Nat.reduceSub, slotsBy, boxesBy, tipsBy, rawAt, nm, AV.ren, AV.renL, AV.under, AV.underL, List.all_nil, List.all_cons, bne_self_eq_false, List.getD_cons_zero, List.getD_cons_succ, List.length_nil, List.length_cons, and_true, true_and, beq_self_eq_true]
  · intro _
    rw [List.take_length]
    simp only [dec_irr, go_sem, Nat.reduceAdd, Nat.reduceEqDiff, Nat.reduceLT, reduceIte, reduceCtorEq, Nat.reduceBEq, Int.reduceLT, Int.reduceToNat, Int.reducePow, Nat.reduceLeDiff, Int.reduceLE, Nat.reduceMul, Nat.reduceSub]
    exact ⟨.inr rfl, 0, by simp only [resAV, resL, resOne, go_sem, Nat.reduceAdd, Nat.reduceEqDiff, Nat.reduceLT, reduceIte, reduceCtorEq, Nat.reduceBEq, Int.reduceLT, Int.reduceToNat, Int.reducePow, Nat.reduceLeDiff, Int.reduceLE, Nat.reduceMul, Nat.reduceSub], by simp [go_sem, Nat.reduceAdd, Nat.reduceEqDiff, Nat.reduceLT, reduceIte, reduceCtorEq, Nat.reduceBEq, Int.reduceLT, Int.reduceToNat, Int.reducePow, Nat.reduceLeDiff, Int.reduceLE, Nat.reduceMul, Nat.reduceSub]⟩

end Go.Proofs.YteekelelcbfekaaDoor

/-! ## SafDD -/

namespace Go.Proofs.YteekelelcbfekaaDoor
open Go Go.Ab
theorem eachT_step {b : List Nat} {fr j : Nat} (h : fr + j < b.length) : eachT fr ((b.drop fr).take (j + 1)) = eachT fr ((b.drop fr).take j) ++ [oneT (fr + j) b[fr + j]] := by
  have hj : j < (b.drop fr).length := by rw [List.length_drop]; omega
  rw [eachT_take hj, List.getElem_drop]

theorem callGo_ok' {P : Program} {g : FuncId} {xs : List AV} {sl : List (Nat × Option AV)} {bx bx1 : List (Nat × List AV)} {tp tp1 : List (Nat × TypeId)} {nx : Nat} {d : Option Nat} {K : State → Prop}
    (hb : bx1.Sublist bx) (ht : tp1.Sublist tp) (h : CallOK P g xs bx1 tp1 nx fun r bx tp nx => K (State.put ⟨sl, bx, tp, nx⟩ d r)) : callGo P (some (.fn (.func g) [] [])) (some xs) d ⟨sl, bx, tp, nx⟩ K :=
  callGo_ok (CallOK.forget hb ht h)

theorem nx_le {c : Nat} {t : List Nat} (hb : ∀ n ∈ c :: t, n ≤ 255) : (nx (c :: t)).1 ≤ 1114111 := by
  have hok := fun r k (h : nx (c :: t) = (r, k, true)) => nx_ok hb h
  have hfl := nx_fail (c := c) (t := t)
  generalize nx (c :: t) = z at hok hfl ⊢
  obtain ⟨r, k, ok⟩ := z
  cases ok
  · have := (hfl rfl).1
    simp only at this ⊢
    omega
  · have := (hok r k rfl).1
    unfold Scalar at this
    simp only
    omega
theorem cut_le : ∀ (f k : Nat) (q : List Nat), (∀ n ∈ q, n ≤ 255) → ∀ x ∈ cutF f k q, x.1 ≤ 1114111
  | 0, k, q, _ => by simp [cutF]
  | f + 1, k, [], _ => by simp [cutF]
  | f + 1, k, c :: t, h => by
    have ih := cut_le f (k + (nx (c :: t)).2.1) ((c :: t).drop (nx (c :: t)).2.1) fun n hn => h n (List.mem_of_mem_drop hn)
    intro x hx
    simp only [cutF, List.mem_cons] at hx
    rcases hx with rfl | hx
    · exact nx_le h
    · exact ih x hx

end Go.Proofs.YteekelelcbfekaaDoor

/-! ## SafED -/

namespace Go.Proofs.YteekelelcbfekaaDoor
open Go Go.Ab Go.ChangeShapes Go.WideShapes Go.ChangeAt Go.RowKit
def a14 : ACode :=
  (.seq (.reg [⟨(.some 4), (.mv (.k (.bool false))), .none⟩]) (.seq (.reg [⟨(.some 5), (.mv (.t 0)), .none⟩, ⟨(.some 6), (.call (.f 16) [(.t 5)]), .none⟩, ⟨(.some 7), (.call (.f 15) [(.t 6)]), .none⟩,
  ⟨(.some 8), (.cvRS (.t 7)), .none⟩, ⟨(.some 9), (.mv (.t 1)), .none⟩, ⟨(.some 10), (.bin .eql (.t 8) (.t 9)), .none⟩, ⟨(.some 4), (.mv (.t 10)), .none⟩]) .ret))
theorem c14 : Tryd.f14.body.bind (cCode Tryd.prog 11) = some a14 := by kernel_rfl
theorem r14 : Tryd.f14.results.toList = [(.tmp 4)] := by kernel_rfl
theorem n14 : Tryd.f14.ntmps = 11 := by kernel_rfl
theorem e14 : Enters Tryd.prog 14 := Go.Ab.enters_of Tryd.func14 (by kernel_rfl) (by kernel_rfl)
def a8 : ACode :=
  (.seq (.reg [⟨(.some 0), (.mv (.k (.bool false))), .none⟩]) (.seq (.reg [⟨(.some 2), (.call (.f 16) [(.k (.string ⟨#[97, 37, 67, 51, 37, 65, 57, 37, 50, 48]⟩))]), .none⟩, ⟨(.some 1), (.mv (.t 2)),
  .none⟩]) (.seq (.reg [⟨(.some 3), (.mv (.t 1)), .none⟩, ⟨(.some 4), (.len (.t 3)), .none⟩, ⟨(.some 5), (.bin .eql (.t 4) (.k (.int .i64 5))), .none⟩, ⟨(.some 6), (.mv (.t 5)), .none⟩, ⟨(.some 7), (.mv
  (.t 1)), (.some (6, true))⟩, ⟨(.some 8), (.ia 42 (.t 7) (.k (.int .i64 1))), (.some (6, true))⟩, ⟨(.some 9), (.ld (.some 3) (.t 8)), (.some (6, true))⟩, ⟨(.some 10), (.bd [(.int .i32 0), (.int .i64
  0), (.int .i64 0)] [(0, (1, (.k (.int .i32 233)))), (1, (1, (.k (.int .i64 1)))), (2, (1, (.k (.int .i64 7))))]), (.some (6, true))⟩, ⟨(.some 11), (.eqg false [.int, .int, .int] (.t 9) (.t 10)),
  (.some (6, true))⟩, ⟨(.some 12), (.pick (.t 6) (.t 11) (.k (.bool false))), .none⟩, ⟨(.some 13), (.mv (.t 12)), .none⟩, ⟨(.some 14), (.call (.f 14) [(.k (.string ⟨#[97, 37, 67, 51, 37, 65, 57, 37, 50,
  48]⟩)), (.k (.string ⟨#[97, 195, 169, 37, 50, 48]⟩))]), (.some (13, true))⟩, ⟨(.some 15), (.pick (.t 13) (.t 14) (.k (.bool false))), .none⟩, ⟨(.some 16), (.mv (.t 15)), .none⟩, ⟨(.some 17), (.call
  (.f 14) [(.k (.string ⟨#[37, 67, 51]⟩)), (.k (.string ⟨#[37, 67, 51]⟩))]), (.some (16, true))⟩, ⟨(.some 18), (.pick (.t 16) (.t 17) (.k (.bool false))), .none⟩, ⟨(.some 19), (.mv (.t 18)), .none⟩,
  ⟨(.some 20), (.call (.f 14) [(.k (.string ⟨#[37, 69, 50, 37, 56, 48, 37, 65, 69]⟩)), (.k (.string ⟨#[37, 69, 50, 37, 56, 48, 37, 65, 69]⟩))]), (.some (19, true))⟩, ⟨(.some 21), (.pick (.t 19) (.t 20)
  (.k (.bool false))), .none⟩, ⟨(.some 22), (.mv (.t 21)), .none⟩, ⟨(.some 23), (.call (.f 14) [(.k (.string ⟨#[37, 52, 49]⟩)), (.k (.string ⟨#[37, 52, 49]⟩))]), (.some (22, true))⟩, ⟨(.some 24), (.pick
  (.t 22) (.t 23) (.k (.bool false))), .none⟩, ⟨(.some 25), (.mv (.t 24)), .none⟩, ⟨(.some 26), (.call (.f 14) [(.k (.string ⟨#[37, 99, 51, 37, 97, 57, 37, 67, 67, 37, 56, 49]⟩)), (.k (.string ⟨#[195,
  169, 204, 129]⟩))]), (.some (25, true))⟩, ⟨(.some 27), (.pick (.t 25) (.t 26) (.k (.bool false))), .none⟩, ⟨(.some 28), (.mv (.t 27)), .none⟩, ⟨(.some 29), (.call (.f 13) [(.k (.int .i32 1488))]),
  (.some (28, true))⟩, ⟨(.some 30), (.pick (.t 28) (.t 29) (.k (.bool false))), .none⟩, ⟨(.some 31), (.mv (.t 30)), .none⟩, ⟨(.some 32), (.call (.f 13) [(.k (.int .i32 8238))]), (.some (31, true))⟩,
  ⟨(.some 33), (.not (.t 32)), (.some (31, true))⟩, ⟨(.some 34), (.pick (.t 31) (.t 33) (.k (.bool false))), .none⟩, ⟨(.some 35), (.mv (.t 34)), .none⟩, ⟨(.some 36), (.call (.f 13) [(.k (.int .i32
  97))]), (.some (35, true))⟩, ⟨(.some 37), (.not (.t 36)), (.some (35, true))⟩, ⟨(.some 38), (.pick (.t 35) (.t 37) (.k (.bool false))), .none⟩, ⟨(.some 0), (.mv (.t 38)), .none⟩]) .ret)))
theorem c8 : Tryd.f8.body.bind (cCode Tryd.prog 39) = some a8 := by kernel_rfl
theorem r8 : Tryd.f8.results.toList = [(.tmp 0)] := by kernel_rfl
theorem n8 : Tryd.f8.ntmps = 39 := by kernel_rfl
theorem e8 : Enters Tryd.prog 8 := Go.Ab.enters_of Tryd.func8 (by kernel_rfl) (by kernel_rfl)
theorem showT_len (at_ : Nat) (b : List Nat) : (showT at_ b).length ≤ b.length := by
  have key : ∀ (f at_ : Nat) (b : List Nat), b.length ≤ f → (showT at_ b).length ≤ b.length := by
    intro f
    induction f with
    | zero => intro at_ b h; have : b = [] := List.eq_nil_of_length_eq_zero (by omega)
              subst this; simp [showT, showF]
    | succ f ih =>
      intro at_ b h
      cases hc : isC b
      · cases b with
        | nil => simp [showT, showF]
        | cons c t =>
          have := ih (at_ + 1) t (by simpa using h)
          rw [showT_one hc]
          simpa using this
      · have h3 := isC_len hc
        have hp := rowN_pos.2 hc
        have hn := rowN_le b
        have := ih (at_ + 3 * rowN b) (b.drop (3 * rowN b)) (by simp only [List.length_drop]; omega)
        have h2 := said_row_len at_ b
        rw [showT_row hc, List.length_append]
        simp only [List.length_drop] at this
        omega
  exact key _ _ _ (Nat.le_refl _)

theorem runesOf_runes : ∀ l : List Int, runesOf (runes l) = some l
  | [] => rfl
  | x :: l => by
    have := runesOf_runes l
    simp only [runes] at this
    simp [runes, runesOf, this]

/-- Is that what a text is shown as? -/
def showsB (b w : List Nat) : Bool := (strOf (rOf (showT 0 b))).toList == (txt w).toList

set_option maxRecDepth 10000 in
theorem shows_pure (b w : List Nat) (hb : ∀ n ∈ b, n ≤ 255) (hl : b.length ≤ 1000000) : Pure Tryd.prog 14 [.lit (.string (txt b)), .lit (.string (txt w))] [] (.lit (.bool (showsB b w))) := by
  refine pure0 Tryd.func14 c14 n14 e14 r14 (by simp) rfl ?_
  simp only [a14, astart, argSlots, go_sem, Nat.reduceAdd, Nat.reduceEqDiff, Nat.reduceLT, reduceIte, reduceCtorEq, Nat.reduceBEq, Int.reduceLT, Int.reduceToNat, Int.reducePow, Nat.reduceLeDiff, Int.reduceLE, Nat.reduceMul, Nat.reduceSub]
  refine callGo_pure (show_pure b hb hl) (by rfl) ?_
  simp only [go_sem, Nat.reduceAdd, Nat.reduceEqDiff, Nat.reduceLT, reduceIte, reduceCtorEq, Nat.reduceBEq, Int.reduceLT, Int.reduceToNat, Int.reducePow, Nat.reduceLeDiff, Int.reduceLE, Nat.reduceMul, Nat.reduceSub]
  refine callGo_pure (safeRunes_pure (showT 0 b) (by have := showT_len 0 b; omega)) (by rfl) ?_
  simp only [go_sem, Nat.reduceAdd, Nat.reduceEqDiff, Nat.reduceLT, reduceIte, reduceCtorEq, Nat.reduceBEq, Int.reduceLT, Int.reduceToNat, Int.reducePow, Nat.reduceLeDiff, Int.reduceLE, Nat.reduceMul, Nat.reduceSub, runesOf_runes, binStr]
  simp only [Done, resAV, resL, resOne, look_nil, look_cons, Nat.reduceEqDiff, if_true, if_false, reduceIte, ite_true, ite_false, Nat.zero_ne_one, Nat.one_ne_zero, reduceCtorEq, true_or, or_true, true_and, Option.some.injEq, AV.lit.injEq, Value.int.injEq, Value.bool.injEq]
  rfl
theorem ex0 : Pure Tryd.prog 14 [.lit (.string ⟨#[97, 37, 67, 51, 37, 65, 57, 37, 50, 48]⟩), .lit (.string ⟨#[97, 195, 169, 37, 50, 48]⟩)] [] (.lit (.bool true)) := by
  have h := shows_pure [97, 37, 67, 51, 37, 65, 57, 37, 50, 48] [97, 195, 169, 37, 50, 48] (by decide) (by decide)
  rw [show showsB [97, 37, 67, 51, 37, 65, 57, 37, 50, 48] [97, 195, 169, 37, 50, 48] = true from by decide +kernel] at h
  exact h
theorem ex1 : Pure Tryd.prog 14 [.lit (.string ⟨#[37, 67, 51]⟩), .lit (.string ⟨#[37, 67, 51]⟩)] [] (.lit (.bool true)) := by
  have h := shows_pure [37, 67, 51] [37, 67, 51] (by decide) (by decide)
  rw [show showsB [37, 67, 51] [37, 67, 51] = true from by decide +kernel] at h
  exact h
theorem ex2 : Pure Tryd.prog 14 [.lit (.string ⟨#[37, 69, 50, 37, 56, 48, 37, 65, 69]⟩), .lit (.string ⟨#[37, 69, 50, 37, 56, 48, 37, 65, 69]⟩)] [] (.lit (.bool true)) := by
  have h := shows_pure [37, 69, 50, 37, 56, 48, 37, 65, 69] [37, 69, 50, 37, 56, 48, 37, 65, 69] (by decide) (by decide)
  rw [show showsB [37, 69, 50, 37, 56, 48, 37, 65, 69] [37, 69, 50, 37, 56, 48, 37, 65, 69] = true from by decide +kernel] at h
  exact h
theorem ex3 : Pure Tryd.prog 14 [.lit (.string ⟨#[37, 52, 49]⟩), .lit (.string ⟨#[37, 52, 49]⟩)] [] (.lit (.bool true)) := by
  have h := shows_pure [37, 52, 49] [37, 52, 49] (by decide) (by decide)
  rw [show showsB [37, 52, 49] [37, 52, 49] = true from by decide +kernel] at h
  exact h
theorem ex4 : Pure Tryd.prog 14 [.lit (.string ⟨#[37, 99, 51, 37, 97, 57, 37, 67, 67, 37, 56, 49]⟩), .lit (.string ⟨#[195, 169, 204, 129]⟩)] [] (.lit (.bool true)) := by
  have h := shows_pure [37, 99, 51, 37, 97, 57, 37, 67, 67, 37, 56, 49] [195, 169, 204, 129] (by decide) (by decide)
  rw [show showsB [37, 99, 51, 37, 97, 57, 37, 67, 67, 37, 56, 49] [195, 169, 204, 129] = true from by decide +kernel] at h
  exact h
theorem exShow : Pure Tryd.prog 16 [.lit (.string ⟨#[97, 37, 67, 51, 37, 65, 57, 37, 50, 48]⟩)] [42] (.sl 42 [[.int .i32 97, .int .i64 0, .int .i64 1], [.int .i32 233, .int .i64 1, .int .i64 7], [.int .i32 37, .int .i64 7, .int .i64 8], [.int .i32 50, .int .i64 8, .int .i64 9], [.int .i32 48, .int .i64 9, .int .i64 10]] (some 0)) := by
  have h := show_pure [97, 37, 67, 51, 37, 65, 57, 37, 50, 48] (by decide) (by decide)
  rw [show showT 0 [97, 37, 67, 51, 37, 65, 57, 37, 50, 48] = [(97, 0, 1), (233, 1, 7), (37, 7, 8), (50, 8, 9), (48, 9, 10)] from by decide +kernel] at h
  exact h
theorem exS1 : Pure Tryd.prog 13 [.lit (.int .i32 1488)] [] (.lit (.bool true)) := by
  have h := safe_pure 1488
  rw [show safeOf 1488 = true from by decide +kernel] at h
  exact h
theorem exS2 : Pure Tryd.prog 13 [.lit (.int .i32 8238)] [] (.lit (.bool false)) := by
  have h := safe_pure 8238
  rw [show safeOf 8238 = false from by decide +kernel] at h
  exact h
theorem exS3 : Pure Tryd.prog 13 [.lit (.int .i32 97)] [] (.lit (.bool false)) := by
  have h := safe_pure 97
  rw [show safeOf 97 = false from by decide +kernel] at h
  exact h

set_option maxRecDepth 10000 in
theorem awake25_pure : Pure Tryd.prog 8 [] [] (.lit (.bool true)) := by
  refine pure0 Tryd.func8 c8 n8 e8 r8 (by simp) rfl ?_
  simp only [a8, astart, argSlots, go_sem, Nat.reduceAdd, Nat.reduceEqDiff, Nat.reduceLT, reduceIte, reduceCtorEq, Nat.reduceBEq, Int.reduceLT, Int.reduceToNat, Int.reducePow, Nat.reduceLeDiff, Int.reduceLE, Nat.reduceMul, Nat.reduceSub]
  refine callGo_pure exShow (by rfl) ?_
  have b5 : (((5 : Nat) : Int) == 5) = true := rfl
  simp only [b5, go_sem, Nat.reduceAdd, Nat.reduceEqDiff, Nat.reduceLT, reduceIte, reduceCtorEq, Nat.reduceBEq, Int.reduceLT, Int.reduceToNat, Int.reducePow, Nat.reduceLeDiff, Int.reduceLE, Nat.reduceMul, Nat.reduceSub, beq_self_eq_true, Bool.and_true]
  refine callGo_pure ex0 (by rfl) ?_
  simp only [go_sem, Nat.reduceAdd, Nat.reduceEqDiff, Nat.reduceLT, reduceIte, reduceCtorEq, Nat.reduceBEq, Int.reduceLT, Int.reduceToNat, Int.reducePow, Nat.reduceLeDiff, Int.reduceLE, Nat.reduceMul, Nat.reduceSub]
  refine callGo_pure ex1 (by rfl) ?_
  simp only [go_sem, Nat.reduceAdd, Nat.reduceEqDiff, Nat.reduceLT, reduceIte, reduceCtorEq, Nat.reduceBEq, Int.reduceLT, Int.reduceToNat, Int.reducePow, Nat.reduceLeDiff, Int.reduceLE, Nat.reduceMul, Nat.reduceSub]
  refine callGo_pure ex2 (by rfl) ?_
  simp only [go_sem, Nat.reduceAdd, Nat.reduceEqDiff, Nat.reduceLT, reduceIte, reduceCtorEq, Nat.reduceBEq, Int.reduceLT, Int.reduceToNat, Int.reducePow, Nat.reduceLeDiff, Int.reduceLE, Nat.reduceMul, Nat.reduceSub]
  refine callGo_pure ex3 (by rfl) ?_
  simp only [go_sem, Nat.reduceAdd, Nat.reduceEqDiff, Nat.reduceLT, reduceIte, reduceCtorEq, Nat.reduceBEq, Int.reduceLT, Int.reduceToNat, Int.reducePow, Nat.reduceLeDiff, Int.reduceLE, Nat.reduceMul, Nat.reduceSub]
  refine callGo_pure ex4 (by rfl) ?_
  simp only [go_sem, Nat.reduceAdd, Nat.reduceEqDiff, Nat.reduceLT, reduceIte, reduceCtorEq, Nat.reduceBEq, Int.reduceLT, Int.reduceToNat, Int.reducePow, Nat.reduceLeDiff, Int.reduceLE, Nat.reduceMul, Nat.reduceSub]
  refine callGo_pure exS1 (by rfl) ?_
  simp only [go_sem, Nat.reduceAdd, Nat.reduceEqDiff, Nat.reduceLT, reduceIte, reduceCtorEq, Nat.reduceBEq, Int.reduceLT, Int.reduceToNat, Int.reducePow, Nat.reduceLeDiff, Int.reduceLE, Nat.reduceMul, Nat.reduceSub]
  refine callGo_pure exS2 (by rfl) ?_
  simp only [go_sem, Nat.reduceAdd, Nat.reduceEqDiff, Nat.reduceLT, reduceIte, reduceCtorEq, Nat.reduceBEq, Int.reduceLT, Int.reduceToNat, Int.reducePow, Nat.reduceLeDiff, Int.reduceLE, Nat.reduceMul, Nat.reduceSub, Bool.not_false]
  refine callGo_pure exS3 (by rfl) ?_
  simp only [go_sem, Nat.reduceAdd, Nat.reduceEqDiff, Nat.reduceLT, reduceIte, reduceCtorEq, Nat.reduceBEq, Int.reduceLT, Int.reduceToNat, Int.reducePow, Nat.reduceLeDiff, Int.reduceLE, Nat.reduceMul, Nat.reduceSub, Bool.not_false]
  simp only [Done, resAV, resL, resOne, look_nil, look_cons, Nat.reduceEqDiff, if_true, if_false, reduceIte, ite_true, ite_false, Nat.zero_ne_one, Nat.one_ne_zero, reduceCtorEq, true_or, or_true, true_and, Option.some.injEq, AV.lit.injEq, Value.int.injEq, Value.bool.injEq]

end Go.Proofs.YteekelelcbfekaaDoor
