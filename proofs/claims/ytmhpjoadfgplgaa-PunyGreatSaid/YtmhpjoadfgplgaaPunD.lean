/-
A step in digits: both programs. Conditions: none.
-/
import Derived.Test.YtmhpjoadfgplgaaPunC
set_option linter.unusedSimpArgs false
set_option linter.unusedVariables false
set_option linter.unusedSectionVars false
namespace Go.Proofs.Ytmhpjoadfgplgaa
open Go Go.Ab
def a40 : ACode :=
  (.seq (.reg [⟨(.some 6), (.mv (.k (.int .i64 1))), .none⟩]) (.block 0 (.loop (.seq (.block 1 (.seq (.reg [⟨(.some 10), (.mv (.t 6)), .none⟩, ⟨(.some 11), (.mv (.t 2)), .none⟩, ⟨(.some 12), (.call (.f
  74) [(.t 10), (.t 11)]), .none⟩, ⟨(.some 7), (.mv (.t 12)), .none⟩]) (.seq (.seq (.reg [⟨(.some 13), (.mv (.t 1)), .none⟩, ⟨(.some 14), (.mv (.t 7)), .none⟩, ⟨(.some 15), (.bin .lss (.t 13) (.t 14)),
  .none⟩]) (.cond (.t 15) (.seq (.reg [⟨(.some 16), (.mv (.t 0)), .none⟩, ⟨(.some 17), (.mv (.t 1)), .none⟩, ⟨(.some 18), (.ixS (.k (.string ⟨#[97, 98, 99, 100, 101, 102, 103, 104, 105, 106, 107, 108,
  109, 110, 111, 112, 113, 114, 115, 116, 117, 118, 119, 120, 121, 122, 48, 49, 50, 51, 52, 53, 54, 55, 56, 57]⟩)) (.t 17)), .none⟩, ⟨(.some 19), (.call (.f 37) [(.t 16), (.t 18)]), .none⟩]) .ret)
  .skip)) (.seq (.reg [⟨(.some 20), (.mv (.t 1)), .none⟩, ⟨(.some 21), (.mv (.t 7)), .none⟩, ⟨(.some 22), (.bin .sub (.t 20) (.t 21)), .none⟩, ⟨(.some 1), (.mv (.t 22)), .none⟩]) (.seq (.reg [⟨(.some
  23), (.mv (.t 0)), .none⟩, ⟨(.some 24), (.mv (.t 7)), .none⟩, ⟨(.some 25), (.mv (.t 1)), .none⟩, ⟨(.some 26), (.mv (.t 7)), .none⟩, ⟨(.some 27), (.bin .sub (.k (.int .i64 36)) (.t 26)), .none⟩,
  ⟨(.some 28), (.bin .rem (.t 25) (.t 27)), .none⟩, ⟨(.some 29), (.bin .add (.t 24) (.t 28)), .none⟩, ⟨(.some 30), (.ixS (.k (.string ⟨#[97, 98, 99, 100, 101, 102, 103, 104, 105, 106, 107, 108, 109,
  110, 111, 112, 113, 114, 115, 116, 117, 118, 119, 120, 121, 122, 48, 49, 50, 51, 52, 53, 54, 55, 56, 57]⟩)) (.t 29)), .none⟩, ⟨(.some 31), (.call (.f 37) [(.t 23), (.t 30)]), .none⟩]) (.reg [⟨(.some
  32), (.mv (.t 1)), .none⟩, ⟨(.some 33), (.mv (.t 7)), .none⟩, ⟨(.some 34), (.bin .sub (.k (.int .i64 36)) (.t 33)), .none⟩, ⟨(.some 35), (.bin .quo (.t 32) (.t 34)), .none⟩, ⟨(.some 1), (.mv (.t 35)),
  .none⟩])))))) (.reg [⟨(.some 8), (.mv (.t 6)), .none⟩, ⟨(.some 9), (.bin .add (.t 8) (.k (.int .i64 1))), .none⟩, ⟨(.some 6), (.mv (.t 9)), .none⟩])))))
theorem c40 : Try.f40.body.bind (cCode Try.prog 36) = some a40 := by kernel_rfl
theorem r40 : Try.f40.results.toList = [] := by kernel_rfl
theorem n40 : Try.f40.ntmps = 36 := by kernel_rfl
theorem e40 : Enters Try.prog 40 := enters_of Try.func40 (by kernel_rfl) (by kernel_rfl)
def a46 : ACode :=
  (.seq (.reg [⟨(.some 4), (.mv (.k (.string ⟨#[]⟩))), .none⟩]) (.seq (.reg [⟨(.some 5), (.mv (.k (.string ⟨#[]⟩))), .none⟩]) (.seq (.reg [⟨(.some 6), (.mv (.k (.int .i64 1))), .none⟩]) (.block 0 (.loop
  (.seq (.block 1 (.seq (.reg [⟨(.some 10), (.mv (.t 6)), .none⟩, ⟨(.some 11), (.mv (.t 1)), .none⟩, ⟨(.some 12), (.call (.f 75) [(.t 10), (.t 11)]), .none⟩, ⟨(.some 7), (.mv (.t 12)), .none⟩]) (.seq
  (.seq (.reg [⟨(.some 13), (.mv (.t 0)), .none⟩, ⟨(.some 14), (.mv (.t 7)), .none⟩, ⟨(.some 15), (.bin .lss (.t 13) (.t 14)), .none⟩]) (.cond (.t 15) (.seq (.reg [⟨(.some 16), (.mv (.t 5)), .none⟩,
  ⟨(.some 17), (.mv (.t 0)), .none⟩, ⟨(.some 18), (.call (.f 76) [(.t 17)]), .none⟩, ⟨(.some 19), (.bs 5 1 [(.t 18)]), .none⟩, ⟨(.some 20), (.cvBS (.t 19)), .none⟩, ⟨(.some 21), (.bin .add (.t 16) (.t
  20)), .none⟩, ⟨(.some 4), (.mv (.t 21)), .none⟩]) .ret) .skip)) (.seq (.reg [⟨(.some 22), (.mv (.t 5)), .none⟩, ⟨(.some 23), (.mv (.t 7)), .none⟩, ⟨(.some 24), (.mv (.t 0)), .none⟩, ⟨(.some 25), (.mv
  (.t 7)), .none⟩, ⟨(.some 26), (.bin .sub (.t 24) (.t 25)), .none⟩, ⟨(.some 27), (.mv (.t 7)), .none⟩, ⟨(.some 28), (.bin .sub (.k (.int .i64 36)) (.t 27)), .none⟩, ⟨(.some 29), (.bin .rem (.t 26) (.t
  28)), .none⟩, ⟨(.some 30), (.bin .add (.t 23) (.t 29)), .none⟩, ⟨(.some 31), (.call (.f 76) [(.t 30)]), .none⟩, ⟨(.some 32), (.bs 5 1 [(.t 31)]), .none⟩, ⟨(.some 33), (.cvBS (.t 32)), .none⟩, ⟨(.some
  34), (.bin .add (.t 22) (.t 33)), .none⟩, ⟨(.some 5), (.mv (.t 34)), .none⟩]) (.reg [⟨(.some 35), (.mv (.t 0)), .none⟩, ⟨(.some 36), (.mv (.t 7)), .none⟩, ⟨(.some 37), (.bin .sub (.t 35) (.t 36)),
  .none⟩, ⟨(.some 38), (.mv (.t 7)), .none⟩, ⟨(.some 39), (.bin .sub (.k (.int .i64 36)) (.t 38)), .none⟩, ⟨(.some 40), (.bin .quo (.t 37) (.t 39)), .none⟩, ⟨(.some 0), (.mv (.t 40)), .none⟩]))))) (.reg
  [⟨(.some 8), (.mv (.t 6)), .none⟩, ⟨(.some 9), (.bin .add (.t 8) (.k (.int .i64 1))), .none⟩, ⟨(.some 6), (.mv (.t 9)), .none⟩])))))))
theorem c46 : Try.f46.body.bind (cCode Try.prog 41) = some a46 := by kernel_rfl
theorem r46 : Try.f46.results.toList = [(.tmp 4)] := by kernel_rfl
theorem n46 : Try.f46.ntmps = 41 := by kernel_rfl
theorem e46 : Enters Try.prog 46 := enters_of Try.func46 (by kernel_rfl) (by kernel_rfl)

/-- A step's digits, from the k-th on. -/
def dgs (k d b : Nat) : List Nat :=
  if d < thr k b then [d] else (thr k b + (d - thr k b) % (36 - thr k b)) :: dgs (k + 1) ((d - thr k b) / (36 - thr k b)) b
termination_by d
decreasing_by
  have := thr_pos k b
  have := thr_le k b
  have := Nat.div_le_self (d - thr k b) (36 - thr k b)
  omega
theorem dgs_end {k d b : Nat} (h : d < thr k b) : dgs k d b = [d] := by rw [dgs, if_pos h]
theorem dgs_more {k d b : Nat} (h : ¬ d < thr k b) : dgs k d b = (thr k b + (d - thr k b) % (36 - thr k b)) :: dgs (k + 1) ((d - thr k b) / (36 - thr k b)) b := by rw [dgs, if_neg h]
theorem dgs_lt : ∀ (d k b : Nat), ∀ x ∈ dgs k d b, x < 36 := by
  intro d
  induction d using Nat.strongRecOn with
  | ind d ih =>
    intro k b x hx
    have h1 := thr_pos k b
    have h2 := thr_le k b
    by_cases h : d < thr k b
    · rw [dgs_end h] at hx
      simp at hx; omega
    · rw [dgs_more h] at hx
      rcases List.mem_cons.1 hx with rfl | hx
      · have := Nat.mod_lt (d - thr k b) (show 0 < 36 - thr k b by omega)
        omega
      · refine ih _ ?_ _ _ x hx
        have := Nat.div_le_self (d - thr k b) (36 - thr k b)
        omega
/-- How many digits a step has at most. -/
theorem dgs_length : ∀ (f k d b : Nat), d < 10 ^ f → (dgs k d b).length ≤ f + 1
  | 0, k, d, b, h => by
    have h1 := thr_pos k b
    rw [dgs_end (by simp at h; omega)]; simp
  | f + 1, k, d, b, h => by
    have h1 := thr_pos k b
    have h2 := thr_le k b
    by_cases h' : d < thr k b
    · rw [dgs_end h']; simp
    · rw [dgs_more h', List.length_cons]
      have := dgs_length f (k + 1) ((d - thr k b) / (36 - thr k b)) b (by
        rw [Nat.pow_succ] at h
        refine Nat.div_lt_of_lt_mul ?_
        have : 10 ^ f * 10 ≤ (36 - thr k b) * 10 ^ f := by rw [Nat.mul_comm]; exact Nat.mul_le_mul_right _ (by omega)
        omega)
      omega
/-- A step, as it is written. -/
def stepS (d b : Nat) : List Nat := (dgs 1 d b).map sgn

theorem cat_txt (a : List Nat) (n : Nat) (h : a.length ≤ 1099511627776) : binStr .add (txt a) ⟨#[UInt8.ofNat n]⟩ = some (.string (txt (a ++ [n]))) := by
  have hs : (⟨#[UInt8.ofNat n]⟩ : ByteArray) = txt [n] := rfl
  rw [hs]
  simp only [binStr, txt_size, List.length_singleton]
  rw [if_neg (by omega), txt_append]

set_option maxRecDepth 10000 in
theorem refStep_pure (d b : Nat) (hd : d ≤ 549755813888) (hb : b ≤ 1000) : Pure Try.prog 46 [.lit (.int .i64 (d : Int)), .lit (.int .i64 (b : Int))] [] (.lit (.string (txt (stepS d b)))) := by
  have hlen := dgs_length 12 1 d b (by omega)
  refine pure0 Try.func46 c46 n46 e46 r46 (by simp) (by rfl) ?_
  simp only [a46, astart, argSlots, go_sem, Nat.reduceAdd, Nat.reduceEqDiff, Nat.reduceLT, reduceIte, reduceCtorEq, Nat.reduceBEq, Int.reduceLT, Int.reduceToNat, Int.reducePow, Nat.reduceLeDiff, Int.reduceLE, Nat.reduceMul, Nat.reduceSub]
  refine loop_by (α := Nat × Nat × List Nat × Nat) (fun x => ⟨[(0, some (.lit (.int .i64 ((x.1 : Nat) : Int)))), (1, some (.lit (.int .i64 (b : Int)))), (5, some (.lit (.string (txt x.2.2.1)))), (6, some (.lit (.int .i64 ((x.2.1 : Nat) : Int))))], [], [], x.2.2.2⟩)
    (fun x => x.2.2.1 ++ (dgs x.2.1 x.1 b).map sgn = stepS d b ∧ x.1 + x.2.1 ≤ d + 1) (fun x => x.1) (fun x y h => by
      have := congrArg (cnt 0) h
      simp [cnt, Ab.look] at this
      rw [this]) (d, 1, [], 0) (weak_forget ?_ (List.Sublist.refl _) (List.Sublist.refl _)) ⟨by simp [stepS], by simp only; omega⟩ ?_
  · simp only [go_sem, Nat.reduceAdd, Nat.reduceEqDiff, Nat.reduceLT, reduceIte, reduceCtorEq, Nat.reduceBEq, Int.reduceLT, Int.reduceToNat, Int.reducePow, Nat.reduceLeDiff, Int.reduceLE, Nat.reduceMul, Nat.reduceSub, slotsBy, boxesBy, tipsBy, rawAt, nm, AV.ren, AV.renL, AV.under, AV.underL, List.all_nil, List.all_cons, bne_self_eq_false, List.getD_cons_zero, List.getD_cons_succ, List.length_nil, List.length_cons, and_true, true_and, slotsSub]
    exact ⟨rfl, rfl⟩
  · rintro ⟨x, k, acc, nx⟩ ⟨h1, h2⟩
    simp only at h1 h2
    simp only [go_sem, Nat.reduceAdd, Nat.reduceEqDiff, Nat.reduceLT, reduceIte, reduceCtorEq, Nat.reduceBEq, Int.reduceLT, Int.reduceToNat, Int.reducePow, Nat.reduceLeDiff, Int.reduceLE, Nat.reduceMul, Nat.reduceSub]
    have ht1 := thr_pos k b
    have ht2 := thr_le k b
    have hacc : acc.length ≤ 1099511627776 := by
      have := congrArg List.length h1
      simp only [List.length_append, List.length_map, stepS] at this
      omega
    refine callGo_pure (refThr_pure k b (by omega) (by omega)) (by rfl) ?_
    simp only [go_sem, Nat.reduceAdd, Nat.reduceEqDiff, Nat.reduceLT, reduceIte, reduceCtorEq, Nat.reduceBEq, Int.reduceLT, Int.reduceToNat, Int.reducePow, Nat.reduceLeDiff, Int.reduceLE, Nat.reduceMul, Nat.reduceSub]
    by_cases hx : x < thr k b
    · have e1 : decide ((x : Int) < (thr k b : Int)) = true := by simp; omega
      simp only [e1, go_sem, Nat.reduceAdd, Nat.reduceEqDiff, Nat.reduceLT, reduceIte, reduceCtorEq, Nat.reduceBEq, Int.reduceLT, Int.reduceToNat, Int.reducePow, Nat.reduceLeDiff, Int.reduceLE, Nat.reduceMul, Nat.reduceSub]
      refine callGo_pure (digit_pure x (by omega)) (by rfl) ?_
      simp only [go_sem, Nat.reduceAdd, Nat.reduceEqDiff, Nat.reduceLT, reduceIte, reduceCtorEq, Nat.reduceBEq, Int.reduceLT, Int.reduceToNat, Int.reducePow, Nat.reduceLeDiff, Int.reduceLE, Nat.reduceMul, Nat.reduceSub]
      have hdn : acc ++ [sgn x] = stepS d b := by rw [← h1, dgs_end hx]; rfl
      simp only [cat_txt _ _ hacc, hdn, go_sem, Nat.reduceAdd, Nat.reduceEqDiff, Nat.reduceLT, reduceIte, reduceCtorEq, Nat.reduceBEq, Int.reduceLT, Int.reduceToNat, Int.reducePow, Nat.reduceLeDiff, Int.reduceLE, Nat.reduceMul, Nat.reduceSub]
      simp only [Done, resAV, resL, resOne, look_nil, look_cons, Nat.reduceEqDiff, if_true, if_false, reduceIte, ite_true, ite_false, Nat.zero_ne_one, Nat.one_ne_zero, reduceCtorEq, true_or, or_true, true_and, Option.some.injEq, AV.lit.injEq, Value.int.injEq, Value.bool.injEq]
    · have e1 : decide ((x : Int) < (thr k b : Int)) = false := by simp; omega
      simp only [e1, go_sem, Nat.reduceAdd, Nat.reduceEqDiff, Nat.reduceLT, reduceIte, reduceCtorEq, Nat.reduceBEq, Int.reduceLT, Int.reduceToNat, Int.reducePow, Nat.reduceLeDiff, Int.reduceLE, Nat.reduceMul, Nat.reduceSub]
      obtain ⟨t, ht⟩ : ∃ t, t = thr k b := ⟨_, rfl⟩
      rw [← ht] at ht1 ht2 hx e1
      have w1 : IntKind.i64.wrap (36 - (t : Int)) = ((36 - t : Nat) : Int) := by rw [wrap_i64 _ (by omega) (by omega)]; omega
      have w2 : IntKind.i64.wrap ((x : Int) - (t : Int)) = ((x - t : Nat) : Int) := by rw [wrap_i64 _ (by omega) (by omega)]; omega
      have w3 : ((x - t : Nat) : Int).tmod ((36 - t : Nat) : Int) = (((x - t) % (36 - t) : Nat) : Int) := tmodN _ _
      have hm := Nat.mod_lt (x - t) (show 0 < 36 - t by omega)
      have hq := Nat.div_le_self (x - t) (36 - t)
      have w4 : IntKind.i64.wrap ((t : Int) + (((x - t) % (36 - t) : Nat) : Int)) = ((t + (x - t) % (36 - t) : Nat) : Int) := by rw [wrap_i64 _ (by omega) (by omega)]; omega
      have w5 : IntKind.i64.wrap (((x - t : Nat) : Int).tdiv ((36 - t : Nat) : Int)) = (((x - t) / (36 - t) : Nat) : Int) := by rw [tdivN]; exact wrapN _ (by omega)
      have w6 : IntKind.i64.wrap ((k : Int) + 1) = ((k + 1 : Nat) : Int) := by rw [wrap_i64 _ (by omega) (by omega)]; omega
      have n0 : (((36 - t : Nat) : Int) = 0) = False := neI (by omega)
      rw [← ht]
      simp only [w1, w2, w3, w4, n0, if_false, go_sem, Nat.reduceAdd, Nat.reduceEqDiff, Nat.reduceLT, reduceIte, reduceCtorEq, Nat.reduceBEq, Int.reduceLT, Int.reduceToNat, Int.reducePow, Nat.reduceLeDiff, Int.reduceLE, Nat.reduceMul, Nat.reduceSub]
      refine callGo_pure (digit_pure (t + (x - t) % (36 - t)) (by omega)) (by rfl) ?_
      simp only [cat_txt _ _ hacc, w1, w2, w5, w6, n0, if_false, go_sem, Nat.reduceAdd, Nat.reduceEqDiff, Nat.reduceLT, reduceIte, reduceCtorEq, Nat.reduceBEq, Int.reduceLT, Int.reduceToNat, Int.reducePow, Nat.reduceLeDiff, Int.reduceLE, Nat.reduceMul, Nat.reduceSub]
      refine ⟨((x - t) / (36 - t), k + 1, acc ++ [sgn (t + (x - t) % (36 - t))], nx + 1), weak_forget ?_ (List.Sublist.refl _) (List.nil_sublist _), ⟨?_, by simp only; omega⟩, by simp only; omega⟩
      · simp only [go_sem, Nat.reduceAdd, Nat.reduceEqDiff, Nat.reduceLT, reduceIte, reduceCtorEq, Nat.reduceBEq, Int.reduceLT, Int.reduceToNat, Int.reducePow, Nat.reduceLeDiff, Int.reduceLE, Nat.reduceMul, Nat.reduceSub, slotsBy, boxesBy, tipsBy, rawAt, nm, AV.ren, AV.renL, AV.under, AV.underL, List.all_nil, List.all_cons, bne_self_eq_false, List.getD_cons_zero, List.getD_cons_succ, List.length_nil, List.length_cons, and_true, true_and, slotsSub]
      · simp only
        rw [← h1, dgs_more (k := k) (d := x) (by rw [← ht]; exact hx), ← ht, List.append_assoc]
        rfl

theorem signs_get {n : Nat} (h : n < 36) : (⟨#[97, 98, 99, 100, 101, 102, 103, 104, 105, 106, 107, 108, 109, 110, 111, 112, 113, 114, 115, 116, 117, 118, 119, 120, 121, 122, 48, 49, 50, 51, 52, 53, 54, 55, 56, 57]⟩ : ByteArray)[n]? = some (UInt8.ofNat (sgn n)) := by
  have : ∀ n < 36, (⟨#[97, 98, 99, 100, 101, 102, 103, 104, 105, 106, 107, 108, 109, 110, 111, 112, 113, 114, 115, 116, 117, 118, 119, 120, 121, 122, 48, 49, 50, 51, 52, 53, 54, 55, 56, 57]⟩ : ByteArray)[n]? = some (UInt8.ofNat (sgn n)) := by decide +kernel
  exact this n h

set_option maxRecDepth 10000 in
theorem put_ok {u : Bool} {id : Nat} {q : AV} {bs : List Nat} (d b : Nat) {bx : List (Nat × List AV)} {tp : List (Nat × TypeId)} {nx : Nat} {K : AV → List (Nat × List AV) → List (Nat × TypeId) → Nat → Prop}
    (hb : boxAt bx id = some [selfP u id, q]) (hq : bufP q bs tp nx) (hl : bs.length + 20 ≤ 1099511627776) (hd : d ≤ 549755813888) (hbi : b ≤ 1000)
    (hK : ∀ q' tp' nx', bufP q' (bs ++ stepS d b) tp' nx' → K (.tu []) (setBox bx id [selfP true id, q']) tp' nx') :
    CallOK Try.prog 40 [.rf (.var 55 2) id, .lit (.int .i64 (d : Int)), .lit (.int .i64 (b : Int))] bx tp nx K := by
  have hlen := dgs_length 12 1 d b (by omega)
  refine callOK_walk Try.func40 c40 n40 e40 r40 (by simp) ?_
  simp only [a40, astart, argSlots, go_sem, Nat.reduceAdd, Nat.reduceEqDiff, Nat.reduceLT, reduceIte, reduceCtorEq, Nat.reduceBEq, Int.reduceLT, Int.reduceToNat, Int.reducePow, Nat.reduceLeDiff, Int.reduceLE, Nat.reduceMul, Nat.reduceSub]
  refine loop_by (α := Nat × Nat × List Nat × (Bool × AV) × List (Nat × List AV) × List (Nat × TypeId) × Nat) (fun x => ⟨[(0, some (.rf (.var 55 2) id)), (1, some (.lit (.int .i64 ((x.1 : Nat) : Int)))), (2, some (.lit (.int .i64 (b : Int)))), (6, some (.lit (.int .i64 ((x.2.1 : Nat) : Int))))], x.2.2.2.2.1, x.2.2.2.2.2.1, x.2.2.2.2.2.2⟩)
    (fun x => bs ++ x.2.2.1 ++ (dgs x.2.1 x.1 b).map sgn = bs ++ stepS d b ∧ x.1 + x.2.1 ≤ d + 1 ∧ boxAt x.2.2.2.2.1 id = some [selfP x.2.2.2.1.1 id, x.2.2.2.1.2] ∧ bufP x.2.2.2.1.2 (bs ++ x.2.2.1) x.2.2.2.2.2.1 x.2.2.2.2.2.2 ∧ ∀ c, setBox x.2.2.2.2.1 id c = setBox bx id c) (fun x => x.1) (fun x y h => by
      have := congrArg (cnt 1) h
      simp [cnt, Ab.look] at this
      rw [this]) (d, 1, [], (u, q), bx, tp, nx) (weak_forget ?_ (List.Sublist.refl _) (List.Sublist.refl _)) ⟨by simp [stepS], by simp only; omega, hb, by simpa using hq, fun _ => rfl⟩ ?_
  · simp only [go_sem, Nat.reduceAdd, Nat.reduceEqDiff, Nat.reduceLT, reduceIte, reduceCtorEq, Nat.reduceBEq, Int.reduceLT, Int.reduceToNat, Int.reducePow, Nat.reduceLeDiff, Int.reduceLE, Nat.reduceMul, Nat.reduceSub, slotsBy, boxesBy, tipsBy, rawAt, nm, AV.ren, AV.renL, AV.under, AV.underL, List.all_nil, List.all_cons, bne_self_eq_false, List.getD_cons_zero, List.getD_cons_succ, List.length_nil, List.length_cons, and_true, true_and, slotsSub]
    exact rfl
  · rintro ⟨x, k, acc, ⟨u1, q1⟩, bx1, tp1, nx1⟩ ⟨h1, h2, h3, h4, h5⟩
    simp only at h1 h2 h3 h4 h5
    simp only [go_sem, Nat.reduceAdd, Nat.reduceEqDiff, Nat.reduceLT, reduceIte, reduceCtorEq, Nat.reduceBEq, Int.reduceLT, Int.reduceToNat, Int.reducePow, Nat.reduceLeDiff, Int.reduceLE, Nat.reduceMul, Nat.reduceSub]
    have ht1 := thr_pos k b
    have ht2 := thr_le k b
    have hacc : acc.length ≤ 13 := by
      have := congrArg List.length h1
      simp only [List.length_append, List.length_map, stepS] at this
      omega
    have hl2 : (bs ++ acc).length ≤ 1099511627776 := by rw [List.length_append]; omega
    refine callGo_pure (thr_pure k b (by omega) (by omega)) (by rfl) ?_
    simp only [go_sem, Nat.reduceAdd, Nat.reduceEqDiff, Nat.reduceLT, reduceIte, reduceCtorEq, Nat.reduceBEq, Int.reduceLT, Int.reduceToNat, Int.reducePow, Nat.reduceLeDiff, Int.reduceLE, Nat.reduceMul, Nat.reduceSub]
    by_cases hx : x < thr k b
    · have e1 : decide ((x : Int) < (thr k b : Int)) = true := by simp; omega
      have hx36 : x < 36 := by omega
      simp only [e1, signs_get hx36, u8_int (sgn_le hx36), go_sem, Nat.reduceAdd, Nat.reduceEqDiff, Nat.reduceLT, reduceIte, reduceCtorEq, Nat.reduceBEq, Int.reduceLT, Int.reduceToNat, Int.reducePow, Nat.reduceLeDiff, Int.reduceLE, Nat.reduceMul, Nat.reduceSub]
      have hdn : bs ++ acc ++ [sgn x] = bs ++ stepS d b := by rw [← h1, dgs_end hx]; rfl
      refine callGo_ok (write_ok (sgn x) h3 h4 hl2 fun q2 hq2 => ?_)
      rw [hdn] at hq2
      rw [h5]
      simp only [go_sem, Nat.reduceAdd, Nat.reduceEqDiff, Nat.reduceLT, reduceIte, reduceCtorEq, Nat.reduceBEq, Int.reduceLT, Int.reduceToNat, Int.reducePow, Nat.reduceLeDiff, Int.reduceLE, Nat.reduceMul, Nat.reduceSub]
      exact ⟨.inr trivial, _, by simp only [resAV, resL, resOne, go_sem, Nat.reduceAdd, Nat.reduceEqDiff, Nat.reduceLT, reduceIte, reduceCtorEq, Nat.reduceBEq, Int.reduceLT, Int.reduceToNat, Int.reducePow, Nat.reduceLeDiff, Int.reduceLE, Nat.reduceMul, Nat.reduceSub], hK _ _ _ hq2⟩
    · have e1 : decide ((x : Int) < (thr k b : Int)) = false := by simp; omega
      simp only [e1, go_sem, Nat.reduceAdd, Nat.reduceEqDiff, Nat.reduceLT, reduceIte, reduceCtorEq, Nat.reduceBEq, Int.reduceLT, Int.reduceToNat, Int.reducePow, Nat.reduceLeDiff, Int.reduceLE, Nat.reduceMul, Nat.reduceSub]
      obtain ⟨t, ht⟩ : ∃ t, t = thr k b := ⟨_, rfl⟩
      rw [← ht] at ht1 ht2 hx e1
      have w1 : IntKind.i64.wrap (36 - (t : Int)) = ((36 - t : Nat) : Int) := by rw [wrap_i64 _ (by omega) (by omega)]; omega
      have w2 : IntKind.i64.wrap ((x : Int) - (t : Int)) = ((x - t : Nat) : Int) := by rw [wrap_i64 _ (by omega) (by omega)]; omega
      have w3 : ((x - t : Nat) : Int).tmod ((36 - t : Nat) : Int) = (((x - t) % (36 - t) : Nat) : Int) := tmodN _ _
      have hm := Nat.mod_lt (x - t) (show 0 < 36 - t by omega)
      have hq := Nat.div_le_self (x - t) (36 - t)
      have w4 : IntKind.i64.wrap ((t : Int) + (((x - t) % (36 - t) : Nat) : Int)) = ((t + (x - t) % (36 - t) : Nat) : Int) := by rw [wrap_i64 _ (by omega) (by omega)]; omega
      have w5 : IntKind.i64.wrap (((x - t : Nat) : Int).tdiv ((36 - t : Nat) : Int)) = (((x - t) / (36 - t) : Nat) : Int) := by rw [tdivN]; exact wrapN _ (by omega)
      have w6 : IntKind.i64.wrap ((k : Int) + 1) = ((k + 1 : Nat) : Int) := by rw [wrap_i64 _ (by omega) (by omega)]; omega
      have n0 : (((36 - t : Nat) : Int) = 0) = False := neI (by omega)
      have hg36 : t + (x - t) % (36 - t) < 36 := by omega
      rw [← ht]
      simp only [w1, w2, w3, w4, n0, if_false, signs_get hg36, u8_int (sgn_le hg36), go_sem, Nat.reduceAdd, Nat.reduceEqDiff, Nat.reduceLT, reduceIte, reduceCtorEq, Nat.reduceBEq, Int.reduceLT, Int.reduceToNat, Int.reducePow, Nat.reduceLeDiff, Int.reduceLE, Nat.reduceMul, Nat.reduceSub]
      refine callGo_ok (write_ok (sgn (t + (x - t) % (36 - t))) h3 h4 hl2 fun q2 hq2 => ?_)
      simp only [w1, w2, w5, w6, n0, if_false, go_sem, Nat.reduceAdd, Nat.reduceEqDiff, Nat.reduceLT, reduceIte, reduceCtorEq, Nat.reduceBEq, Int.reduceLT, Int.reduceToNat, Int.reducePow, Nat.reduceLeDiff, Int.reduceLE, Nat.reduceMul, Nat.reduceSub]
      refine ⟨((x - t) / (36 - t), k + 1, acc ++ [sgn (t + (x - t) % (36 - t))], (true, q2), setBox bx1 id [selfP true id, q2], [(nx1 + 1, 5)], nx1 + 2), weak_forget ?_ (List.Sublist.refl _) (List.Sublist.refl _), ⟨?_, by simp only; omega, boxAt_set h3, by simpa only [List.append_assoc] using hq2, fun c => by rw [setBox_set, h5]⟩, by simp only; omega⟩
      · simp only [go_sem, Nat.reduceAdd, Nat.reduceEqDiff, Nat.reduceLT, reduceIte, reduceCtorEq, Nat.reduceBEq, Int.reduceLT, Int.reduceToNat, Int.reducePow, Nat.reduceLeDiff, Int.reduceLE, Nat.reduceMul, Nat.reduceSub, slotsBy, boxesBy, tipsBy, rawAt, nm, AV.ren, AV.renL, AV.under, AV.underL, List.all_nil, List.all_cons, bne_self_eq_false, List.getD_cons_zero, List.getD_cons_succ, List.length_nil, List.length_cons, and_true, true_and, slotsSub]
      · simp only
        rw [← h1, dgs_more (k := k) (d := x) (by rw [← ht]; exact hx), ← ht, ← List.append_assoc, List.append_assoc (bs ++ acc)]
        rfl
end Go.Proofs.Ytmhpjoadfgplgaa
