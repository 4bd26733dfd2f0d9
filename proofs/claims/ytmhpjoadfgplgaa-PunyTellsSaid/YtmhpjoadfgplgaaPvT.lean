/-
PunyTells: the reference of layer 4, and that the program tells what it does. Conditions: none.
-/
import Derived.Test.YtmhpjoadfgplgaaPunX
set_option linter.unusedSimpArgs false
set_option linter.unusedVariables false
set_option linter.unusedSectionVars false

/-! ## PunY -/

namespace Go.Proofs.Ytmhpjoadfgplgaa

/-- What is put behind those up to m, and those that are m ahead of place k. -/
def remF (L : List Nat) (m k : Nat) : List (Nat × Nat) := rowS m (cntL m (L.take k)) (L.drop k) ++ opsF L (m + 1)

/-- That is to be put yet. -/
def cand (m k i x : Nat) : Prop := m < x ∨ (x = m ∧ k ≤ i)

theorem rem_start (L : List Nat) : opsF L 128 = remF L 128 0 := by
  unfold remF
  rw [opsF_cons L (by omega), List.take_zero, List.drop_zero, cntL_nil]

theorem rowS_at {L : List Nat} {m k a : Nat} (hk : k ≤ a) (ha : a < L.length) (hm : L[a] = m) (hno : ∀ i (hi : i < L.length), k ≤ i → i < a → L[i] ≠ m) :
    rowS m (cntL m (L.take k)) (L.drop k) = (m, cntL m (L.take a)) :: rowS m (cntL m (L.take (a + 1))) (L.drop (a + 1)) := by
  have e1 : L.drop k = (L.drop k).take (a - k) ++ L.drop a := by
    conv => lhs; rw [← List.take_append_drop (a - k) (L.drop k)]
    rw [List.drop_drop, show k + (a - k) = a by omega]
  have e2 : L.take a = L.take k ++ (L.drop k).take (a - k) := by
    have := List.take_add (l := L) (i := k) (j := a - k)
    rw [show k + (a - k) = a by omega] at this
    exact this
  have hn : ∀ x ∈ (L.drop k).take (a - k), x ≠ m := fun x hx => by
    obtain ⟨i, hi, rfl⟩ := List.getElem_of_mem hx
    simp only [List.length_take, List.length_drop] at hi
    rw [List.getElem_take, List.getElem_drop]
    exact hno _ (by omega) (by omega) (by omega)
  rw [e1, rowS_append, rowS_none _ hn, List.nil_append, ← cntL_append, ← e2, List.drop_eq_getElem_cons ha, hm, rowS, if_pos rfl]
  have e3 : cntL m (L.take (a + 1)) = cntL m (L.take a) + 1 := by
    rw [List.take_succ_eq_append_getElem ha, cntL_append, hm, cntL_cons, if_pos (Nat.le_refl _), cntL_nil]
  rw [e3]

theorem rem_next {L : List Nat} {m k a : Nat} (hL : ∀ x ∈ L, x ≤ 1114111) (ha : a < L.length) (hc : cand m k a L[a]) (hmin : ∀ i (hi : i < L.length), cand m k i L[i] → L[a] < L[i] ∨ (L[i] = L[a] ∧ a ≤ i)) :
    remF L m k = (L[a], cntL L[a] (L.take a)) :: remF L L[a] (a + 1) := by
  have hax := hL _ (List.getElem_mem ha)
  rcases hc with hc | ⟨hc, hk⟩
  · have h1 : rowS m (cntL m (L.take k)) (L.drop k) = [] := rowS_none _ fun x hx e => by
      obtain ⟨i, hi, rfl⟩ := List.getElem_of_mem hx
      rw [List.length_drop] at hi
      rw [List.getElem_drop] at e
      rcases hmin (k + i) (by omega) (.inr ⟨e, by omega⟩) with h | ⟨h, _⟩ <;> omega
    have h2 : opsF L (m + 1) = opsF L L[a] := by
      have := opsF_skip L (L[a] - (m + 1)) (m + 1) (by omega) (fun x hx hh => by
        obtain ⟨i, hi, rfl⟩ := List.getElem_of_mem hx
        rcases hmin i hi (.inl (by omega)) with h | ⟨h, _⟩ <;> omega)
      rw [this]; congr 1; omega
    unfold remF
    rw [h1, List.nil_append, h2, opsF_cons L (by omega)]
    have h3 := rowS_at (L := L) (m := L[a]) (k := 0) (Nat.zero_le a) ha rfl (fun i hi _ hia e => by
      rcases hmin i hi (.inl (by omega)) with h | ⟨_, h⟩ <;> omega)
    rw [List.take_zero, List.drop_zero, cntL_nil] at h3
    rw [h3]; rfl
  · unfold remF
    rw [← hc, rowS_at (L := L) (m := L[a]) hk ha rfl (fun i hi hki hia e => by
      rcases hmin i hi (.inr ⟨by omega, hki⟩) with h | ⟨_, h⟩ <;> omega)]
    rfl
theorem rem_none {L : List Nat} {m k : Nat} (hno : ∀ i (hi : i < L.length), ¬ cand m k i L[i]) : remF L m k = [] := by
  unfold remF
  rw [rowS_none _ (fun x hx e => by
    obtain ⟨i, hi, rfl⟩ := List.getElem_of_mem hx
    rw [List.length_drop] at hi
    rw [List.getElem_drop] at e
    exact hno (k + i) (by omega) (.inr ⟨e, by omega⟩)), opsF_end L (fun x hx => by
    obtain ⟨i, hi, rfl⟩ := List.getElem_of_mem hx
    have := hno i hi
    unfold cand at this
    omega)]
  rfl

/-- The next one: its place; none. -/
def IsNext (L : List Nat) (m k : Nat) : Option Nat → Prop
  | none => ∀ i (hi : i < L.length), ¬ cand m k i L[i]
  | some a => ∃ ha : a < L.length, cand m k a L[a] ∧ ∀ i (hi : i < L.length), cand m k i L[i] → L[a] < L[i] ∨ (L[i] = L[a] ∧ a ≤ i)
end Go.Proofs.Ytmhpjoadfgplgaa

/-! ## PunZ -/

namespace Go.Proofs.Ytmhpjoadfgplgaa
open Go Go.Ab
def a44 : ACode :=
  (.seq (.reg [⟨(.some 6), (.mv (.k (.int .i32 0))), .none⟩, ⟨(.some 7), (.mv (.k (.int .i64 0))), .none⟩, ⟨(.some 8), (.mv (.k (.bool false))), .none⟩]) (.seq (.reg [⟨(.some 9), (.mv (.k (.int .i32
  0))), .none⟩, ⟨(.some 10), (.mv (.k (.int .i64 (-1)))), .none⟩]) (.seq (.seq (.reg [⟨(.some 11), (.mv (.k (.int .i64 0))), .none⟩]) (.block 0 (.loop (.seq (.seq (.reg [⟨(.some 12), (.mv (.t 11)),
  .none⟩, ⟨(.some 13), (.mv (.t 0)), .none⟩, ⟨(.some 14), (.len (.t 13)), .none⟩, ⟨(.some 15), (.bin .lss (.t 12) (.t 14)), .none⟩]) (.cond (.t 15) .skip (.exit 0))) (.seq (.block 1 (.seq (.seq (.reg
  [⟨(.some 18), (.mv (.t 0)), .none⟩, ⟨(.some 19), (.mv (.t 11)), .none⟩, ⟨(.some 20), (.ia 21 (.t 18) (.t 19)), .none⟩, ⟨(.some 21), (.ld .none (.t 20)), .none⟩, ⟨(.some 22), (.bin .lss (.t 21) (.k
  (.int .i32 128))), .none⟩, ⟨(.some 23), (.mv (.t 22)), .none⟩, ⟨(.some 24), (.mv (.t 0)), (.some (23, false))⟩, ⟨(.some 25), (.mv (.t 11)), (.some (23, false))⟩, ⟨(.some 26), (.ia 21 (.t 24) (.t 25)),
  (.some (23, false))⟩, ⟨(.some 27), (.ld .none (.t 26)), (.some (23, false))⟩, ⟨(.some 28), (.mv (.t 1)), (.some (23, false))⟩, ⟨(.some 29), (.bin .lss (.t 27) (.t 28)), (.some (23, false))⟩, ⟨(.some
  30), (.pick (.t 23) (.k (.bool true)) (.t 29)), .none⟩, ⟨(.some 31), (.mv (.t 30)), .none⟩, ⟨(.some 32), (.mv (.t 0)), (.some (31, false))⟩, ⟨(.some 33), (.mv (.t 11)), (.some (31, false))⟩, ⟨(.some
  34), (.ia 21 (.t 32) (.t 33)), (.some (31, false))⟩, ⟨(.some 35), (.ld .none (.t 34)), (.some (31, false))⟩, ⟨(.some 36), (.mv (.t 1)), (.some (31, false))⟩, ⟨(.some 37), (.bin .eql (.t 35) (.t 36)),
  (.some (31, false))⟩, ⟨(.some 38), (.mv (.t 37)), (.some (31, false))⟩, ⟨(.some 39), (.mv (.t 11)), (.some (38, true))⟩, ⟨(.some 40), (.mv (.t 2)), (.some (38, true))⟩, ⟨(.some 41), (.bin .leq (.t 39)
  (.t 40)), (.some (38, true))⟩, ⟨(.some 42), (.pick (.t 38) (.t 41) (.k (.bool false))), (.some (31, false))⟩, ⟨(.some 43), (.pick (.t 31) (.k (.bool true)) (.t 42)), .none⟩]) (.cond (.t 43) (.exit 1)
  .skip)) (.seq (.reg [⟨(.some 44), (.mv (.t 10)), .none⟩, ⟨(.some 45), (.bin .lss (.t 44) (.k (.int .i64 0))), .none⟩, ⟨(.some 46), (.mv (.t 45)), .none⟩, ⟨(.some 47), (.mv (.t 0)), (.some (46,
  false))⟩, ⟨(.some 48), (.mv (.t 11)), (.some (46, false))⟩, ⟨(.some 49), (.ia 21 (.t 47) (.t 48)), (.some (46, false))⟩, ⟨(.some 50), (.ld .none (.t 49)), (.some (46, false))⟩, ⟨(.some 51), (.mv (.t
  9)), (.some (46, false))⟩, ⟨(.some 52), (.bin .lss (.t 50) (.t 51)), (.some (46, false))⟩, ⟨(.some 53), (.pick (.t 46) (.k (.bool true)) (.t 52)), .none⟩]) (.cond (.t 53) (.reg [⟨(.some 54), (.mv (.t
  0)), .none⟩, ⟨(.some 55), (.mv (.t 11)), .none⟩, ⟨(.some 56), (.ia 21 (.t 54) (.t 55)), .none⟩, ⟨(.some 57), (.ld .none (.t 56)), .none⟩, ⟨(.some 58), (.mv (.t 11)), .none⟩, ⟨(.some 9), (.mv (.t 57)),
  .none⟩, ⟨(.some 10), (.mv (.t 58)), .none⟩]) .skip)))) (.reg [⟨(.some 16), (.mv (.t 11)), .none⟩, ⟨(.some 17), (.bin .add (.t 16) (.k (.int .i64 1))), .none⟩, ⟨(.some 11), (.mv (.t 17)), .none⟩]))))))
  (.seq (.reg [⟨(.some 59), (.mv (.t 9)), .none⟩, ⟨(.some 60), (.mv (.t 10)), .none⟩, ⟨(.some 61), (.mv (.t 10)), .none⟩, ⟨(.some 62), (.bin .geq (.t 61) (.k (.int .i64 0))), .none⟩, ⟨(.some 6), (.mv
  (.t 59)), .none⟩, ⟨(.some 7), (.mv (.t 60)), .none⟩, ⟨(.some 8), (.mv (.t 62)), .none⟩]) .ret))))
theorem c44 : Try.f44.body.bind (cCode Try.prog 63) = some a44 := by kernel_rfl
theorem r44 : Try.f44.results.toList = [(.tmp 6), (.tmp 7), (.tmp 8)] := by kernel_rfl
theorem n44 : Try.f44.ntmps = 63 := by kernel_rfl
theorem e44 : Enters Try.prog 44 := enters_of Try.func44 (by kernel_rfl) (by kernel_rfl)
def a45 : ACode :=
  (.seq (.reg [⟨(.some 6), (.mv (.k (.int .i64 0))), .none⟩]) (.seq (.reg [⟨(.some 7), (.mv (.k (.int .i64 0))), .none⟩]) (.seq (.seq (.reg [⟨(.some 8), (.mv (.k (.int .i64 0))), .none⟩]) (.block 0
  (.loop (.seq (.seq (.reg [⟨(.some 9), (.mv (.t 8)), .none⟩, ⟨(.some 10), (.mv (.t 2)), .none⟩, ⟨(.some 11), (.bin .lss (.t 9) (.t 10)), .none⟩]) (.cond (.t 11) .skip (.exit 0))) (.seq (.block 1 (.seq
  (.reg [⟨(.some 14), (.mv (.t 0)), .none⟩, ⟨(.some 15), (.mv (.t 8)), .none⟩, ⟨(.some 16), (.ia 21 (.t 14) (.t 15)), .none⟩, ⟨(.some 17), (.ld .none (.t 16)), .none⟩, ⟨(.some 18), (.mv (.t 1)), .none⟩,
  ⟨(.some 19), (.bin .leq (.t 17) (.t 18)), .none⟩]) (.cond (.t 19) (.reg [⟨(.some 20), (.mv (.t 7)), .none⟩, ⟨(.some 21), (.bin .add (.t 20) (.k (.int .i64 1))), .none⟩, ⟨(.some 7), (.mv (.t 21)),
  .none⟩]) .skip))) (.reg [⟨(.some 12), (.mv (.t 8)), .none⟩, ⟨(.some 13), (.bin .add (.t 12) (.k (.int .i64 1))), .none⟩, ⟨(.some 8), (.mv (.t 13)), .none⟩])))))) (.seq (.reg [⟨(.some 22), (.mv (.t
  7)), .none⟩, ⟨(.some 6), (.mv (.t 22)), .none⟩]) .ret))))
theorem c45 : Try.f45.body.bind (cCode Try.prog 23) = some a45 := by kernel_rfl
theorem r45 : Try.f45.results.toList = [(.tmp 6)] := by kernel_rfl
theorem n45 : Try.f45.ntmps = 23 := by kernel_rfl
theorem e45 : Enters Try.prog 45 := enters_of Try.func45 (by kernel_rfl) (by kernel_rfl)

/-- The next one among the first i places. -/
def lf (L : List Nat) (m k : Nat) : Nat → Option Nat
  | 0 => none
  | i + 1 => if m < L.getD i 0 ∨ (L.getD i 0 = m ∧ k ≤ i) then (match lf L m k i with
    | none => some i
    | some a => if L.getD i 0 < L.getD a 0 then some i else some a) else lf L m k i

theorem lf_spec (L : List Nat) (m k : Nat) : ∀ i, match lf L m k i with
    | none => ∀ j, j < i → ¬ cand m k j (L.getD j 0)
    | some a => a < i ∧ cand m k a (L.getD a 0) ∧ ∀ j, j < i → cand m k j (L.getD j 0) → L.getD a 0 < L.getD j 0 ∨ (L.getD j 0 = L.getD a 0 ∧ a ≤ j)
  | 0 => fun j hj => by omega
  | i + 1 => by
    have ih := lf_spec L m k i
    rw [lf]
    by_cases hc : m < L.getD i 0 ∨ (L.getD i 0 = m ∧ k ≤ i)
    · rw [if_pos hc]
      cases hl : lf L m k i with
      | none =>
        rw [hl] at ih
        simp only at ih ⊢
        refine ⟨Nat.lt_succ_self _, hc, fun j hj hcj => ?_⟩
        rcases Nat.lt_succ_iff_lt_or_eq.1 hj with hj | rfl
        · exact absurd hcj (ih j hj)
        · exact .inr ⟨rfl, Nat.le_refl _⟩
      | some a =>
        rw [hl] at ih
        simp only at ih ⊢
        obtain ⟨h1, h2, h3⟩ := ih
        by_cases hlt : L.getD i 0 < L.getD a 0
        · rw [if_pos hlt]
          refine ⟨Nat.lt_succ_self _, hc, fun j hj hcj => ?_⟩
          rcases Nat.lt_succ_iff_lt_or_eq.1 hj with hj | rfl
          · rcases h3 j hj hcj with h | ⟨h, _⟩
            · exact .inl (by omega)
            · exact .inl (by omega)
          · exact .inr ⟨rfl, Nat.le_refl _⟩
        · rw [if_neg hlt]
          refine ⟨by omega, h2, fun j hj hcj => ?_⟩
          rcases Nat.lt_succ_iff_lt_or_eq.1 hj with hj | rfl
          · exact h3 j hj hcj
          · rcases Nat.lt_or_eq_of_le (Nat.le_of_not_lt hlt) with h | h
            · exact .inl h
            · exact .inr ⟨h.symm, by omega⟩
    · rw [if_neg hc]
      cases hl : lf L m k i with
      | none =>
        rw [hl] at ih
        intro j hj
        rcases Nat.lt_succ_iff_lt_or_eq.1 hj with hj | rfl
        · exact ih j hj
        · exact hc
      | some a =>
        rw [hl] at ih
        simp only at ih ⊢
        obtain ⟨h1, h2, h3⟩ := ih
        refine ⟨by omega, h2, fun j hj hcj => ?_⟩
        rcases Nat.lt_succ_iff_lt_or_eq.1 hj with hj | rfl
        · exact h3 j hj hcj
        · exact absurd hcj hc
theorem getD_eq {L : List Nat} {i : Nat} (h : i < L.length) : L.getD i 0 = L[i] := by simp [List.getD, h]
theorem lf_next (L : List Nat) (m k : Nat) : IsNext L m k (lf L m k L.length) := by
  have h := lf_spec L m k L.length
  cases hl : lf L m k L.length with
  | none =>
    rw [hl] at h
    intro i hi
    have := h i hi
    rwa [getD_eq hi] at this
  | some a =>
    rw [hl] at h
    simp only at h
    obtain ⟨h1, h2, h3⟩ := h
    rw [getD_eq h1] at h2 h3
    refine ⟨h1, h2, fun i hi hc => ?_⟩
    have := h3 i hi (by rw [getD_eq hi]; exact hc)
    rwa [getD_eq hi] at this

def lfB (L : List Nat) : Option Nat → Int
  | none => 0
  | some a => (L.getD a 0 : Int)
def lfW : Option Nat → Int
  | none => -1
  | some a => (a : Int)
theorem lfB_n (L : List Nat) : lfB L none = 0 := rfl
theorem lfB_s (L : List Nat) (a : Nat) : lfB L (some a) = (L.getD a 0 : Int) := rfl
theorem lfW_n : lfW none = -1 := rfl
theorem lfW_s (a : Nat) : lfW (some a) = (a : Int) := rfl
def lfR (L : List Nat) (o : Option Nat) : AV := .tu [.lit (.int .i32 (lfB L o)), .lit (.int .i64 (lfW o)), .lit (.bool o.isSome)]

set_option maxRecDepth 10000 in
theorem least_pure (L : List Nat) (m k : Nat) (hl : L.length ≤ 1000000) (hL : ∀ x ∈ L, x ≤ 1114111) (hm : 128 ≤ m) : Pure Try.prog 44 [rS (ofN L) none, .lit (.int .i32 (m : Int)), .lit (.int .i64 ((k : Int) - 1))] [] (lfR L (lf L m k L.length)) := by
  refine pure0 Try.func44 c44 n44 e44 r44 (by simp) (by rfl) ?_
  simp only [a44, astart, argSlots, go_sem, Nat.reduceAdd, Nat.reduceEqDiff, Nat.reduceLT, reduceIte, reduceCtorEq, Nat.reduceBEq, Int.reduceLT, Int.reduceToNat, Int.reducePow, Nat.reduceLeDiff, Int.reduceLE, Nat.reduceMul, Nat.reduceSub]
  refine loop_to L.length (fun i => ⟨[(0, some (rS (ofN L) none)), (1, some (.lit (.int .i32 (m : Int)))), (2, some (.lit (.int .i64 ((k : Int) - 1)))), (9, some (.lit (.int .i32 (lfB L (lf L m k i))))), (10, some (.lit (.int .i64 (lfW (lf L m k i))))), (11, some (.lit (.int .i64 (i : Int))))], [], [], 0⟩)
    (fun i => True) (weak_forget ?_ (List.Sublist.refl _) (List.Sublist.refl _)) trivial ?_ ?_
  · simp only [go_sem, Nat.reduceAdd, Nat.reduceEqDiff, Nat.reduceLT, reduceIte, reduceCtorEq, Nat.reduceBEq, Int.reduceLT, Int.reduceToNat, Int.reducePow, Nat.reduceLeDiff, Int.reduceLE, Nat.reduceMul, Nat.reduceSub, slotsBy, boxesBy, tipsBy, rawAt, nm, AV.ren, AV.renL, AV.under, AV.underL, List.all_nil, List.all_cons, bne_self_eq_false, List.getD_cons_zero, List.getD_cons_succ, List.length_nil, List.length_cons, and_true, true_and, slotsSub, Int.natCast_zero, lf, lfB, lfW]
  · intro i hi _
    have hsp := lf_spec L m k i
    have w : IntKind.i64.wrap ((i : Int) + 1) = ((i + 1 : Nat) : Int) := by rw [wrap_i64 _ (by omega) (by omega)]; omega
    have hxi := ofN_get hi
    have hgd := getD_eq hi
    simp only [runes_length, ofN_length, dec_lt hi, hi, hxi, go_sem, Nat.reduceAdd, Nat.reduceEqDiff, Nat.reduceLT, reduceIte, reduceCtorEq, Nat.reduceBEq, Int.reduceLT, Int.reduceToNat, Int.reducePow, Nat.reduceLeDiff, Int.reduceLE, Nat.reduceMul, Nat.reduceSub]
    by_cases h1 : L[i] < 128
    · have d1 : decide (((L[i] : Nat) : Int) < 128) = true := by simp; omega
      have e : lf L m k (i + 1) = lf L m k i := by rw [lf, if_neg (by rw [hgd]; omega)]
      simp only [d1, w, go_sem, Nat.reduceAdd, Nat.reduceEqDiff, Nat.reduceLT, reduceIte, reduceCtorEq, Nat.reduceBEq, Int.reduceLT, Int.reduceToNat, Int.reducePow, Nat.reduceLeDiff, Int.reduceLE, Nat.reduceMul, Nat.reduceSub]
      refine weak_forget ?_ (List.Sublist.refl _) (List.Sublist.refl _)
      simp only [e, go_sem, Nat.reduceAdd, Nat.reduceEqDiff, Nat.reduceLT, reduceIte, reduceCtorEq, Nat.reduceBEq, Int.reduceLT, Int.reduceToNat, Int.reducePow, Nat.reduceLeDiff, Int.reduceLE, Nat.reduceMul, Nat.reduceSub, slotsBy, boxesBy, tipsBy, rawAt, nm, AV.ren, AV.renL, AV.under, AV.underL, List.all_nil, List.all_cons, bne_self_eq_false, List.getD_cons_zero, List.getD_cons_succ, List.length_nil, List.length_cons, and_true, true_and, slotsSub]
    · have d1 : decide (((L[i] : Nat) : Int) < 128) = false := by simp; omega
      by_cases h2 : L[i] < m
      · have d2 : decide (((L[i] : Nat) : Int) < (m : Int)) = true := by simp; omega
        have e : lf L m k (i + 1) = lf L m k i := by rw [lf, if_neg (by rw [hgd]; omega)]
        simp only [d1, d2, hi, hxi, w, go_sem, Nat.reduceAdd, Nat.reduceEqDiff, Nat.reduceLT, reduceIte, reduceCtorEq, Nat.reduceBEq, Int.reduceLT, Int.reduceToNat, Int.reducePow, Nat.reduceLeDiff, Int.reduceLE, Nat.reduceMul, Nat.reduceSub]
        refine weak_forget ?_ (List.Sublist.refl _) (List.Sublist.refl _)
        simp only [e, go_sem, Nat.reduceAdd, Nat.reduceEqDiff, Nat.reduceLT, reduceIte, reduceCtorEq, Nat.reduceBEq, Int.reduceLT, Int.reduceToNat, Int.reducePow, Nat.reduceLeDiff, Int.reduceLE, Nat.reduceMul, Nat.reduceSub, slotsBy, boxesBy, tipsBy, rawAt, nm, AV.ren, AV.renL, AV.under, AV.underL, List.all_nil, List.all_cons, bne_self_eq_false, List.getD_cons_zero, List.getD_cons_succ, List.length_nil, List.length_cons, and_true, true_and, slotsSub]
      · have d2 : decide (((L[i] : Nat) : Int) < (m : Int)) = false := by simp; omega
        by_cases h3 : L[i] = m ∧ i < k
        · have d3 : (((L[i] : Nat) : Int) == (m : Int)) = true := by simp; omega
          have d4 : decide ((i : Int) ≤ (k : Int) - 1) = true := by simp; omega
          have e : lf L m k (i + 1) = lf L m k i := by rw [lf, if_neg (by rw [hgd]; omega)]
          simp only [d1, d2, d3, d4, hi, hxi, w, go_sem, Nat.reduceAdd, Nat.reduceEqDiff, Nat.reduceLT, reduceIte, reduceCtorEq, Nat.reduceBEq, Int.reduceLT, Int.reduceToNat, Int.reducePow, Nat.reduceLeDiff, Int.reduceLE, Nat.reduceMul, Nat.reduceSub]
          refine weak_forget ?_ (List.Sublist.refl _) (List.Sublist.refl _)
          simp only [e, go_sem, Nat.reduceAdd, Nat.reduceEqDiff, Nat.reduceLT, reduceIte, reduceCtorEq, Nat.reduceBEq, Int.reduceLT, Int.reduceToNat, Int.reducePow, Nat.reduceLeDiff, Int.reduceLE, Nat.reduceMul, Nat.reduceSub, slotsBy, boxesBy, tipsBy, rawAt, nm, AV.ren, AV.renL, AV.under, AV.underL, List.all_nil, List.all_cons, bne_self_eq_false, List.getD_cons_zero, List.getD_cons_succ, List.length_nil, List.length_cons, and_true, true_and, slotsSub]
        · have hcand : m < L.getD i 0 ∨ (L.getD i 0 = m ∧ k ≤ i) := by rw [hgd]; omega
          have d34 : ((((L[i] : Nat) : Int) == (m : Int)) = true ∧ decide ((i : Int) ≤ (k : Int) - 1) = false) ∨ (((L[i] : Nat) : Int) == (m : Int)) = false := by
            simp only [beq_iff_eq, Int.natCast_inj, decide_eq_false_iff_not, beq_eq_false_iff_ne, ne_eq]
            omega
          have e : lf L m k (i + 1) = (match lf L m k i with
            | none => some i
            | some a => if L.getD i 0 < L.getD a 0 then some i else some a) := by rw [lf, if_pos hcand]
          cases hl2 : lf L m k i with
          | none =>
            rw [hl2] at e
            have d5 : decide ((-1 : Int) < 0) = true := by decide
            have e3 : lfB L (lf L m k (i + 1)) = ((L[i] : Nat) : Int) := by rw [e]; simp only [lfB, hgd]
            have e4 : lfW (lf L m k (i + 1)) = (i : Int) := by rw [e]; rfl
            rcases d34 with ⟨d3, d4⟩ | d3
            all_goals
              try simp only [d1, d2, d3, d4, d5, lfW_n, lfB_n, hi, hxi, w, go_sem, Nat.reduceAdd, Nat.reduceEqDiff, Nat.reduceLT, reduceIte, reduceCtorEq, Nat.reduceBEq, Int.reduceLT, Int.reduceToNat, Int.reducePow, Nat.reduceLeDiff, Int.reduceLE, Nat.reduceMul, Nat.reduceSub]
              try simp only [d1, d2, d3, d5, lfW_n, lfB_n, hi, hxi, w, go_sem, Nat.reduceAdd, Nat.reduceEqDiff, Nat.reduceLT, reduceIte, reduceCtorEq, Nat.reduceBEq, Int.reduceLT, Int.reduceToNat, Int.reducePow, Nat.reduceLeDiff, Int.reduceLE, Nat.reduceMul, Nat.reduceSub]
              refine weak_forget ?_ (List.Sublist.refl _) (List.Sublist.refl _)
              simp only [e3, e4, go_sem, Nat.reduceAdd, Nat.reduceEqDiff, Nat.reduceLT, reduceIte, reduceCtorEq, Nat.reduceBEq, Int.reduceLT, Int.reduceToNat, Int.reducePow, Nat.reduceLeDiff, Int.reduceLE, Nat.reduceMul, Nat.reduceSub, slotsBy, boxesBy, tipsBy, rawAt, nm, AV.ren, AV.renL, AV.under, AV.underL, List.all_nil, List.all_cons, bne_self_eq_false, List.getD_cons_zero, List.getD_cons_succ, List.length_nil, List.length_cons, and_true, true_and, slotsSub]
          | some a =>
            rw [hl2] at e
            simp only at e
            have d5 : decide ((a : Int) < 0) = false := by simp
            by_cases hlt : L.getD i 0 < L.getD a 0
            · rw [if_pos hlt] at e
              have e3 : lfB L (lf L m k (i + 1)) = ((L[i] : Nat) : Int) := by rw [e]; simp only [lfB, hgd]
              have e4 : lfW (lf L m k (i + 1)) = (i : Int) := by rw [e]; rfl
              have d6 : decide (((L[i] : Nat) : Int) < ((L.getD a 0 : Nat) : Int)) = true := by rw [hgd] at hlt; simp only [decide_eq_true_eq]; omega
              rcases d34 with ⟨d3, d4⟩ | d3
              all_goals
                try simp only [d1, d2, d3, d4, d5, d6, lfW_s, lfB_s, hi, hxi, w, go_sem, Nat.reduceAdd, Nat.reduceEqDiff, Nat.reduceLT, reduceIte, reduceCtorEq, Nat.reduceBEq, Int.reduceLT, Int.reduceToNat, Int.reducePow, Nat.reduceLeDiff, Int.reduceLE, Nat.reduceMul, Nat.reduceSub]
                try simp only [d1, d2, d3, d5, d6, lfW_s, lfB_s, hi, hxi, w, go_sem, Nat.reduceAdd, Nat.reduceEqDiff, Nat.reduceLT, reduceIte, reduceCtorEq, Nat.reduceBEq, Int.reduceLT, Int.reduceToNat, Int.reducePow, Nat.reduceLeDiff, Int.reduceLE, Nat.reduceMul, Nat.reduceSub]
                refine weak_forget ?_ (List.Sublist.refl _) (List.Sublist.refl _)
                simp only [e3, e4, go_sem, Nat.reduceAdd, Nat.reduceEqDiff, Nat.reduceLT, reduceIte, reduceCtorEq, Nat.reduceBEq, Int.reduceLT, Int.reduceToNat, Int.reducePow, Nat.reduceLeDiff, Int.reduceLE, Nat.reduceMul, Nat.reduceSub, slotsBy, boxesBy, tipsBy, rawAt, nm, AV.ren, AV.renL, AV.under, AV.underL, List.all_nil, List.all_cons, bne_self_eq_false, List.getD_cons_zero, List.getD_cons_succ, List.length_nil, List.length_cons, and_true, true_and, slotsSub]
            · rw [if_neg hlt] at e
              have d6 : decide (((L[i] : Nat) : Int) < ((L.getD a 0 : Nat) : Int)) = false := by rw [hgd] at hlt; simp only [decide_eq_false_iff_not]; omega
              rcases d34 with ⟨d3, d4⟩ | d3
              all_goals
                try simp only [d1, d2, d3, d4, d5, d6, lfW_s, lfB_s, hi, hxi, w, go_sem, Nat.reduceAdd, Nat.reduceEqDiff, Nat.reduceLT, reduceIte, reduceCtorEq, Nat.reduceBEq, Int.reduceLT, Int.reduceToNat, Int.reducePow, Nat.reduceLeDiff, Int.reduceLE, Nat.reduceMul, Nat.reduceSub]
                try simp only [d1, d2, d3, d5, d6, lfW_s, lfB_s, hi, hxi, w, go_sem, Nat.reduceAdd, Nat.reduceEqDiff, Nat.reduceLT, reduceIte, reduceCtorEq, Nat.reduceBEq, Int.reduceLT, Int.reduceToNat, Int.reducePow, Nat.reduceLeDiff, Int.reduceLE, Nat.reduceMul, Nat.reduceSub]
                refine weak_forget ?_ (List.Sublist.refl _) (List.Sublist.refl _)
                simp only [e, lfW_s, lfB_s, go_sem, Nat.reduceAdd, Nat.reduceEqDiff, Nat.reduceLT, reduceIte, reduceCtorEq, Nat.reduceBEq, Int.reduceLT, Int.reduceToNat, Int.reducePow, Nat.reduceLeDiff, Int.reduceLE, Nat.reduceMul, Nat.reduceSub, slotsBy, boxesBy, tipsBy, rawAt, nm, AV.ren, AV.renL, AV.under, AV.underL, List.all_nil, List.all_cons, bne_self_eq_false, List.getD_cons_zero, List.getD_cons_succ, List.length_nil, List.length_cons, and_true, true_and, slotsSub]
  · intro _
    simp only [runes_length, ofN_length, dec_irr, go_sem, Nat.reduceAdd, Nat.reduceEqDiff, Nat.reduceLT, reduceIte, reduceCtorEq, Nat.reduceBEq, Int.reduceLT, Int.reduceToNat, Int.reducePow, Nat.reduceLeDiff, Int.reduceLE, Nat.reduceMul, Nat.reduceSub]
    have e : decide (lfW (lf L m k L.length) ≥ 0) = (lf L m k L.length).isSome := by
      cases lf L m k L.length with
      | none => rfl
      | some a => simp [lfW]
    simp only [e, lfR, go_sem, Nat.reduceAdd, Nat.reduceEqDiff, Nat.reduceLT, reduceIte, reduceCtorEq, Nat.reduceBEq, Int.reduceLT, Int.reduceToNat, Int.reducePow, Nat.reduceLeDiff, Int.reduceLE, Nat.reduceMul, Nat.reduceSub]
    simp only [Done, resAV, resL, resOne, look_nil, look_cons, Nat.reduceEqDiff, if_true, if_false, reduceIte, ite_true, ite_false, Nat.zero_ne_one, Nat.one_ne_zero, reduceCtorEq, true_or, or_true, true_and, Option.some.injEq, AV.lit.injEq, Value.int.injEq, Value.bool.injEq]

set_option maxRecDepth 10000 in
theorem ahead_pure (L : List Nat) (m k : Nat) (hl : L.length ≤ 1000000) (hk : k ≤ L.length) : Pure Try.prog 45 [rS (ofN L) none, .lit (.int .i32 (m : Int)), .lit (.int .i64 (k : Int))] [] (.lit (.int .i64 (cntL m (L.take k) : Int))) := by
  refine pure0 Try.func45 c45 n45 e45 r45 (by simp) (by rfl) ?_
  simp only [a45, astart, argSlots, go_sem, Nat.reduceAdd, Nat.reduceEqDiff, Nat.reduceLT, reduceIte, reduceCtorEq, Nat.reduceBEq, Int.reduceLT, Int.reduceToNat, Int.reducePow, Nat.reduceLeDiff, Int.reduceLE, Nat.reduceMul, Nat.reduceSub]
  refine loop_to k (fun i => ⟨[(0, some (rS (ofN L) none)), (1, some (.lit (.int .i32 (m : Int)))), (2, some (.lit (.int .i64 (k : Int)))), (7, some (.lit (.int .i64 (cntL m (L.take i) : Int)))), (8, some (.lit (.int .i64 (i : Int))))], [], [], 0⟩)
    (fun i => True) (weak_forget ?_ (List.Sublist.refl _) (List.Sublist.refl _)) trivial ?_ ?_
  · simp only [go_sem, Nat.reduceAdd, Nat.reduceEqDiff, Nat.reduceLT, reduceIte, reduceCtorEq, Nat.reduceBEq, Int.reduceLT, Int.reduceToNat, Int.reducePow, Nat.reduceLeDiff, Int.reduceLE, Nat.reduceMul, Nat.reduceSub, slotsBy, boxesBy, tipsBy, rawAt, nm, AV.ren, AV.renL, AV.under, AV.underL, List.all_nil, List.all_cons, bne_self_eq_false, List.getD_cons_zero, List.getD_cons_succ, List.length_nil, List.length_cons, and_true, true_and, slotsSub, Int.natCast_zero, cntL_nil]
  · intro i hi _
    have hil : i < L.length := by omega
    have w : IntKind.i64.wrap ((i : Int) + 1) = ((i + 1 : Nat) : Int) := by rw [wrap_i64 _ (by omega) (by omega)]; omega
    have hxi := ofN_get hil
    have hcl := cntL_le m (L.take i)
    rw [List.length_take] at hcl
    have w2 : IntKind.i64.wrap ((cntL m (L.take i) : Int) + 1) = ((cntL m (L.take i) + 1 : Nat) : Int) := by rw [wrap_i64 _ (by omega) (by omega)]; omega
    have htk : cntL m (L.take (i + 1)) = cntL m (L.take i) + (if L[i] ≤ m then 1 else 0) := by
      rw [List.take_succ_eq_append_getElem hil, cntL_append, cntL_cons, cntL_nil]
      omega
    simp only [runes_length, ofN_length, dec_lt hi, hil, hxi, go_sem, Nat.reduceAdd, Nat.reduceEqDiff, Nat.reduceLT, reduceIte, reduceCtorEq, Nat.reduceBEq, Int.reduceLT, Int.reduceToNat, Int.reducePow, Nat.reduceLeDiff, Int.reduceLE, Nat.reduceMul, Nat.reduceSub]
    by_cases h : L[i] ≤ m
    · have d : decide (((L[i] : Nat) : Int) ≤ (m : Int)) = true := by simp; omega
      rw [if_pos h] at htk
      simp only [d, w, w2, go_sem, Nat.reduceAdd, Nat.reduceEqDiff, Nat.reduceLT, reduceIte, reduceCtorEq, Nat.reduceBEq, Int.reduceLT, Int.reduceToNat, Int.reducePow, Nat.reduceLeDiff, Int.reduceLE, Nat.reduceMul, Nat.reduceSub]
      refine weak_forget ?_ (List.Sublist.refl _) (List.Sublist.refl _)
      simp only [htk, go_sem, Nat.reduceAdd, Nat.reduceEqDiff, Nat.reduceLT, reduceIte, reduceCtorEq, Nat.reduceBEq, Int.reduceLT, Int.reduceToNat, Int.reducePow, Nat.reduceLeDiff, Int.reduceLE, Nat.reduceMul, Nat.reduceSub, slotsBy, boxesBy, tipsBy, rawAt, nm, AV.ren, AV.renL, AV.under, AV.underL, List.all_nil, List.all_cons, bne_self_eq_false, List.getD_cons_zero, List.getD_cons_succ, List.length_nil, List.length_cons, and_true, true_and, slotsSub]
    · have d : decide (((L[i] : Nat) : Int) ≤ (m : Int)) = false := by simp; omega
      rw [if_neg h] at htk
      simp only [d, w, go_sem, Nat.reduceAdd, Nat.reduceEqDiff, Nat.reduceLT, reduceIte, reduceCtorEq, Nat.reduceBEq, Int.reduceLT, Int.reduceToNat, Int.reducePow, Nat.reduceLeDiff, Int.reduceLE, Nat.reduceMul, Nat.reduceSub]
      refine weak_forget ?_ (List.Sublist.refl _) (List.Sublist.refl _)
      simp only [htk, Nat.add_zero, go_sem, Nat.reduceAdd, Nat.reduceEqDiff, Nat.reduceLT, reduceIte, reduceCtorEq, Nat.reduceBEq, Int.reduceLT, Int.reduceToNat, Int.reducePow, Nat.reduceLeDiff, Int.reduceLE, Nat.reduceMul, Nat.reduceSub, slotsBy, boxesBy, tipsBy, rawAt, nm, AV.ren, AV.renL, AV.under, AV.underL, List.all_nil, List.all_cons, bne_self_eq_false, List.getD_cons_zero, List.getD_cons_succ, List.length_nil, List.length_cons, and_true, true_and, slotsSub]
  · intro _
    simp only [dec_irr, go_sem, Nat.reduceAdd, Nat.reduceEqDiff, Nat.reduceLT, reduceIte, reduceCtorEq, Nat.reduceBEq, Int.reduceLT, Int.reduceToNat, Int.reducePow, Nat.reduceLeDiff, Int.reduceLE, Nat.reduceMul, Nat.reduceSub]
    simp only [Done, resAV, resL, resOne, look_nil, look_cons, Nat.reduceEqDiff, if_true, if_false, reduceIte, ite_true, ite_false, Nat.zero_ne_one, Nat.one_ne_zero, reduceCtorEq, true_or, or_true, true_and, Option.some.injEq, AV.lit.injEq, Value.int.injEq, Value.bool.injEq]
end Go.Proofs.Ytmhpjoadfgplgaa

/-! ## PvA -/

namespace Go.Proofs.Ytmhpjoadfgplgaa
open Go Go.Ab
def a16_5 : ACode :=
  (.seq (.reg [⟨(.some 7), (.mv (.k (.int .i32 128))), .none⟩, ⟨(.some 8), (.mv (.k (.int .i64 0))), .none⟩, ⟨(.some 9), (.mv (.k (.int .i64 72))), .none⟩, ⟨(.some 10), (.mv (.k (.bool true))), .none⟩])
  (.seq (.reg [⟨(.some 52), (.mv (.t 0)), .none⟩, ⟨(.some 53), (.call (.f 44) [(.t 52), (.k (.int .i32 128)), (.k (.int .i64 (-1)))]), .none⟩, ⟨(.some 51), (.mv (.t 53)), .none⟩, ⟨(.some 54), (.ext (.t
  51) 0), .none⟩, ⟨(.some 55), (.ext (.t 51) 1), .none⟩, ⟨(.some 56), (.ext (.t 51) 2), .none⟩, ⟨(.some 11), (.mv (.t 54)), .none⟩, ⟨(.some 12), (.mv (.t 55)), .none⟩, ⟨(.some 13), (.mv (.t 56)),
  .none⟩]) (.seq (.block 2 (.loop (.seq (.seq (.reg [⟨(.some 57), (.mv (.t 13)), .none⟩]) (.cond (.t 57) .skip (.exit 2))) (.block 3 (.seq (.reg [⟨(.some 58), (.mv (.t 0)), .none⟩, ⟨(.some 59), (.mv (.t
  11)), .none⟩, ⟨(.some 60), (.mv (.t 12)), .none⟩, ⟨(.some 61), (.call (.f 45) [(.t 58), (.t 59), (.t 60)]), .none⟩, ⟨(.some 14), (.mv (.t 61)), .none⟩]) (.seq (.reg [⟨(.some 62), (.mv (.t 11)),
  .none⟩, ⟨(.some 63), (.mv (.t 7)), .none⟩, ⟨(.some 64), (.bin .sub (.t 62) (.t 63)), .none⟩, ⟨(.some 65), (.cvI .i64 (.t 64)), .none⟩, ⟨(.some 66), (.mv (.t 5)), .none⟩, ⟨(.some 67), (.bin .add (.t
  66) (.k (.int .i64 1))), .none⟩, ⟨(.some 68), (.bin .mul (.t 65) (.t 67)), .none⟩, ⟨(.some 69), (.mv (.t 14)), .none⟩, ⟨(.some 70), (.bin .add (.t 68) (.t 69)), .none⟩, ⟨(.some 71), (.mv (.t 8)),
  .none⟩, ⟨(.some 72), (.bin .sub (.t 70) (.t 71)), .none⟩, ⟨(.some 15), (.mv (.t 72)), .none⟩]) (.seq (.reg [⟨(.some 73), (.mv (.t 4)), .none⟩, ⟨(.some 74), (.mv (.t 15)), .none⟩, ⟨(.some 75), (.mv (.t
  9)), .none⟩, ⟨(.some 76), (.call (.f 46) [(.t 74), (.t 75)]), .none⟩, ⟨(.some 77), (.bin .add (.t 73) (.t 76)), .none⟩, ⟨(.some 4), (.mv (.t 77)), .none⟩]) (.seq (.reg [⟨(.some 78), (.mv (.t 5)),
  .none⟩, ⟨(.some 79), (.bin .add (.t 78) (.k (.int .i64 1))), .none⟩, ⟨(.some 5), (.mv (.t 79)), .none⟩]) (.seq (.reg [⟨(.some 80), (.mv (.t 15)), .none⟩, ⟨(.some 81), (.mv (.t 5)), .none⟩, ⟨(.some
  82), (.mv (.t 10)), .none⟩, ⟨(.some 83), (.call (.f 47) [(.t 80), (.t 81), (.t 82)]), .none⟩, ⟨(.some 9), (.mv (.t 83)), .none⟩]) (.seq (.reg [⟨(.some 10), (.mv (.k (.bool false))), .none⟩]) (.seq
  (.reg [⟨(.some 84), (.mv (.t 11)), .none⟩, ⟨(.some 85), (.mv (.t 14)), .none⟩, ⟨(.some 86), (.bin .add (.t 85) (.k (.int .i64 1))), .none⟩, ⟨(.some 7), (.mv (.t 84)), .none⟩, ⟨(.some 8), (.mv (.t
  86)), .none⟩]) (.reg [⟨(.some 88), (.mv (.t 0)), .none⟩, ⟨(.some 89), (.mv (.t 11)), .none⟩, ⟨(.some 90), (.mv (.t 12)), .none⟩, ⟨(.some 91), (.call (.f 44) [(.t 88), (.t 89), (.t 90)]), .none⟩,
  ⟨(.some 87), (.mv (.t 91)), .none⟩, ⟨(.some 92), (.ext (.t 87) 0), .none⟩, ⟨(.some 93), (.ext (.t 87) 1), .none⟩, ⟨(.some 94), (.ext (.t 87) 2), .none⟩, ⟨(.some 11), (.mv (.t 92)), .none⟩, ⟨(.some
  12), (.mv (.t 93)), .none⟩, ⟨(.some 13), (.mv (.t 94)), .none⟩])))))))))))) (.seq (.reg [⟨(.some 95), (.mv (.t 4)), .none⟩, ⟨(.some 2), (.mv (.t 95)), .none⟩, ⟨(.some 3), (.mv (.k (.int .i64 0))),
  .none⟩]) .ret))))
def a16 : ACode :=
  (.seq (.reg [⟨(.some 2), (.mv (.k (.string ⟨#[]⟩))), .none⟩, ⟨(.some 3), (.mv (.k (.int .i64 0))), .none⟩]) (.seq (.seq (.reg [⟨(.some 16), (.mv (.t 0)), .none⟩, ⟨(.some 17), (.len (.t 16)), .none⟩,
  ⟨(.some 18), (.bin .gtr (.t 17) (.k (.int .i64 2000))), .none⟩]) (.cond (.t 18) (.seq (.reg [⟨(.some 2), (.mv (.k (.string ⟨#[]⟩))), .none⟩, ⟨(.some 3), (.mv (.k (.int .i64 41))), .none⟩]) .ret)
  .skip)) (.seq (.reg [⟨(.some 4), (.mv (.k (.string ⟨#[]⟩))), .none⟩, ⟨(.some 5), (.mv (.k (.int .i64 0))), .none⟩]) (.seq (.seq (.reg [⟨(.some 6), (.mv (.k (.int .i64 0))), .none⟩]) (.block 0 (.loop
  (.seq (.seq (.reg [⟨(.some 19), (.mv (.t 6)), .none⟩, ⟨(.some 20), (.mv (.t 0)), .none⟩, ⟨(.some 21), (.len (.t 20)), .none⟩, ⟨(.some 22), (.bin .lss (.t 19) (.t 21)), .none⟩]) (.cond (.t 22) .skip
  (.exit 0))) (.seq (.block 1 (.seq (.seq (.reg [⟨(.some 25), (.mv (.t 0)), .none⟩, ⟨(.some 26), (.mv (.t 6)), .none⟩, ⟨(.some 27), (.ia 21 (.t 25) (.t 26)), .none⟩, ⟨(.some 28), (.ld .none (.t 27)),
  .none⟩, ⟨(.some 29), (.call (.f 43) [(.t 28)]), .none⟩, ⟨(.some 30), (.not (.t 29)), .none⟩]) (.cond (.t 30) (.seq (.reg [⟨(.some 2), (.mv (.k (.string ⟨#[]⟩))), .none⟩, ⟨(.some 3), (.mv (.k (.int
  .i64 40))), .none⟩]) .ret) .skip)) (.seq (.reg [⟨(.some 31), (.mv (.t 0)), .none⟩, ⟨(.some 32), (.mv (.t 6)), .none⟩, ⟨(.some 33), (.ia 21 (.t 31) (.t 32)), .none⟩, ⟨(.some 34), (.ld .none (.t 33)),
  .none⟩, ⟨(.some 35), (.bin .lss (.t 34) (.k (.int .i32 128))), .none⟩]) (.cond (.t 35) (.seq (.reg [⟨(.some 36), (.mv (.t 4)), .none⟩, ⟨(.some 37), (.mv (.t 0)), .none⟩, ⟨(.some 38), (.mv (.t 6)),
  .none⟩, ⟨(.some 39), (.ia 21 (.t 37) (.t 38)), .none⟩, ⟨(.some 40), (.ld .none (.t 39)), .none⟩, ⟨(.some 41), (.cvI .u8 (.t 40)), .none⟩, ⟨(.some 42), (.bs 5 1 [(.t 41)]), .none⟩, ⟨(.some 43), (.cvBS
  (.t 42)), .none⟩, ⟨(.some 44), (.bin .add (.t 36) (.t 43)), .none⟩, ⟨(.some 4), (.mv (.t 44)), .none⟩]) (.reg [⟨(.some 45), (.mv (.t 5)), .none⟩, ⟨(.some 46), (.bin .add (.t 45) (.k (.int .i64 1))),
  .none⟩, ⟨(.some 5), (.mv (.t 46)), .none⟩])) .skip)))) (.reg [⟨(.some 23), (.mv (.t 6)), .none⟩, ⟨(.some 24), (.bin .add (.t 23) (.k (.int .i64 1))), .none⟩, ⟨(.some 6), (.mv (.t 24)), .none⟩]))))))
  (.seq (.seq (.reg [⟨(.some 47), (.mv (.t 5)), .none⟩, ⟨(.some 48), (.bin .gtr (.t 47) (.k (.int .i64 0))), .none⟩]) (.cond (.t 48) (.reg [⟨(.some 49), (.mv (.t 4)), .none⟩, ⟨(.some 50), (.bin .add (.t
  49) (.k (.string ⟨#[45]⟩))), .none⟩, ⟨(.some 4), (.mv (.t 50)), .none⟩]) .skip)) a16_5)))))
theorem c16 : Try.f16.body.bind (cCode Try.prog 96) = some a16 := by kernel_rfl
theorem r16 : Try.f16.results.toList = [(.tmp 2), (.tmp 3)] := by kernel_rfl
theorem n16 : Try.f16.ntmps = 96 := by kernel_rfl
theorem e16 : Enters Try.prog 16 := enters_of Try.func16 (by kernel_rfl) (by kernel_rfl)

theorem cat_txt2 (a b : List Nat) (h : a.length ≤ 1099511627776) (h2 : b.length ≤ 1099511627776) : binStr .add (txt a) (txt b) = some (.string (txt (a ++ b))) := by
  simp only [binStr, txt_size]
  rw [if_neg (by omega), txt_append]
theorem stepS_len {d b : Nat} (hd : d ≤ 549755813888) : (stepS d b).length ≤ 13 := by
  unfold stepS; rw [List.length_map]; exact dgs_length 12 1 d b (by omega)

set_option maxRecDepth 10000 in
set_option maxHeartbeats 1000000 in
theorem enc_tail {L : List Nat} (hS : Scs L) (hl : L.length ≤ 2000) {sl : List (Nat × Option AV)} {tp : List (Nat × TypeId)} {nx : Nat}
    (h0 : Ab.look sl 0 = some (rS (ofN L) none)) (h4 : Ab.look sl 4 = some (.lit (.string (txt (pln L ++ dash (pln L)))))) (h5 : Ab.look sl 5 = some (.lit (.int .i64 ((pln L).length : Int)))) :
    awp Try.prog 0 a16_5 (fun e s => Done Try.prog [.tmp 2, .tmp 3] (.tu [.lit (.string (txt (encT L))), .lit (.int .i64 0)]) e s) ⟨sl, [], tp, nx⟩ := by
  have hL := hS.le
  have hel := enc_length hS hl
  simp only [a16_5, h0, go_sem, Nat.reduceAdd, Nat.reduceEqDiff, Nat.reduceLT, reduceIte, reduceCtorEq, Nat.reduceBEq, Int.reduceLT, Int.reduceToNat, Int.reducePow, Nat.reduceLeDiff, Int.reduceLE, Nat.reduceMul, Nat.reduceSub]
  have hle0 := least_pure L 128 0 (by omega) hL (by omega)
  refine callGo_pure hle0 (by rfl) ?_
  simp only [lfR, go_sem, Nat.reduceAdd, Nat.reduceEqDiff, Nat.reduceLT, reduceIte, reduceCtorEq, Nat.reduceBEq, Int.reduceLT, Int.reduceToNat, Int.reducePow, Nat.reduceLeDiff, Int.reduceLE, Nat.reduceMul, Nat.reduceSub]
  refine loop_by (α := List Nat × (Nat × Nat × Nat × Nat × Bool) × (Nat × Nat)) (fun x => ⟨[(0, some (rS (ofN L) none)), (4, some (.lit (.string (txt x.1)))), (5, some (.lit (.int .i64 ((x.2.1.2.2.1 : Nat) : Int)))), (7, some (.lit (.int .i32 ((x.2.1.1 : Nat) : Int)))), (8, some (.lit (.int .i64 ((x.2.1.2.1 : Nat) : Int)))), (9, some (.lit (.int .i64 ((x.2.1.2.2.2.1 : Nat) : Int)))), (10, some (.lit (.bool x.2.1.2.2.2.2))), (11, some (.lit (.int .i32 (lfB L (lf L x.2.2.1 x.2.2.2 L.length))))), (12, some (.lit (.int .i64 (lfW (lf L x.2.2.1 x.2.2.2 L.length))))), (13, some (.lit (.bool (lf L x.2.2.1 x.2.2.2 L.length).isSome)))], [], [], nx⟩)
    (fun x => x.1 ++ txS x.2.1.2.2.2.1 x.2.1.2.2.2.2 (dls x.2.1.1 x.2.1.2.1 x.2.1.2.2.1 (remF L x.2.2.1 x.2.2.2)) = encT L ∧ okO x.2.1.1 x.2.1.2.1 x.2.1.2.2.1 (remF L x.2.2.1 x.2.2.2) ∧ 128 ≤ x.2.2.1 ∧ x.2.1.2.2.2.1 ≤ 1000 ∧ x.2.1.2.2.1 + (remF L x.2.2.1 x.2.2.2).length = L.length ∧ x.2.1.1 ≤ 1114111 ∧ x.2.1.2.1 ≤ x.2.1.2.2.1) (fun x => 3000 - x.2.1.2.2.1) (fun x y h => by
      have := congrArg (cnt 5) h
      simp [cnt, Ab.look] at this
      rw [this]) (pln L ++ dash (pln L), (128, 0, (pln L).length, 72, true), (128, 0)) (weak_forget ?_ (List.Sublist.refl _) (List.nil_sublist _)) ⟨?_, ?_, by simp, by simp, ?_, by simp, by simp⟩ ?_
  · simp only [h0, h4, h5, go_sem, Nat.reduceAdd, Nat.reduceEqDiff, Nat.reduceLT, reduceIte, reduceCtorEq, Nat.reduceBEq, Int.reduceLT, Int.reduceToNat, Int.reducePow, Nat.reduceLeDiff, Int.reduceLE, Nat.reduceMul, Nat.reduceSub, slotsBy, boxesBy, tipsBy, rawAt, nm, AV.ren, AV.renL, AV.under, AV.underL, List.all_nil, List.all_cons, bne_self_eq_false, List.getD_cons_zero, List.getD_cons_succ, List.length_nil, List.length_cons, and_true, true_and, slotsSub]
    exact ⟨rfl, rfl, rfl⟩
  · simp only [← rem_start]
    rfl
  · simp only [← rem_start]
    exact ok_opsF L
  · simp only [← rem_start]
    exact opsF_length L hL
  · rintro ⟨acc, ⟨n, i, h, b, f⟩, ⟨m, k⟩⟩ ⟨h1, h2, h3, h4, h5, h6, h7⟩
    simp only at h1 h2 h3 h4 h5 h6 h7
    have hnx := lf_next L m k
    simp only [go_sem, Nat.reduceAdd, Nat.reduceEqDiff, Nat.reduceLT, reduceIte, reduceCtorEq, Nat.reduceBEq, Int.reduceLT, Int.reduceToNat, Int.reducePow, Nat.reduceLeDiff, Int.reduceLE, Nat.reduceMul, Nat.reduceSub]
    cases ho : lf L m k L.length with
    | none =>
      rw [ho] at hnx
      have hr : remF L m k = [] := rem_none hnx
      rw [hr] at h1
      simp only [dls, txS, List.append_nil] at h1
      simp only [h1, Option.isSome_none, go_sem, Nat.reduceAdd, Nat.reduceEqDiff, Nat.reduceLT, reduceIte, reduceCtorEq, Nat.reduceBEq, Int.reduceLT, Int.reduceToNat, Int.reducePow, Nat.reduceLeDiff, Int.reduceLE, Nat.reduceMul, Nat.reduceSub]
      simp only [Done, resAV, resL, resOne, look_nil, look_cons, Nat.reduceEqDiff, if_true, if_false, reduceIte, ite_true, ite_false, Nat.zero_ne_one, Nat.one_ne_zero, reduceCtorEq, true_or, or_true, true_and, Option.some.injEq, AV.lit.injEq, Value.int.injEq, Value.bool.injEq]
    | some a =>
      rw [ho] at hnx
      obtain ⟨ha, hc, hmin⟩ := hnx
      have hr := rem_next hL ha hc hmin
      rw [hr] at h1 h2 h5
      obtain ⟨g1, g2, g3⟩ := h2
      have hMx := hL _ (List.getElem_mem ha)
      have hM2 : 128 ≤ L[a] := by unfold cand at hc; omega
      have hgd : L.getD a 0 = L[a] := getD_eq ha
      simp only [lfB_s, lfW_s, hgd, Option.isSome_some, go_sem, Nat.reduceAdd, Nat.reduceEqDiff, Nat.reduceLT, reduceIte, reduceCtorEq, Nat.reduceBEq, Int.reduceLT, Int.reduceToNat, Int.reducePow, Nat.reduceLeDiff, Int.reduceLE, Nat.reduceMul, Nat.reduceSub]
      clear hgd ho hmin hc hr
      generalize L[a] = M at *
      refine callGo_pure (ahead_pure L M a (by omega) (by omega)) (by rfl) ?_
      generalize hpp : cntL M (L.take a) = p at *
      simp only [List.length_cons] at h5
      have hprod : (M - n) * (h + 1) ≤ 1114111 * 2001 := Nat.mul_le_mul (by omega) (by omega)
      have hge : i ≤ (M - n) * (h + 1) + p := by
        rcases g1 with g1 | ⟨_, g1⟩
        · have := Nat.le_mul_of_pos_left (h + 1) (show 0 < M - n by omega)
          omega
        · omega
      have w1 : IntKind.i32.wrap ((M : Int) - (n : Int)) = ((M - n : Nat) : Int) := by rw [wrap_i32 _ (by omega) (by omega)]; omega
      have w2 : IntKind.i64.wrap ((M - n : Nat) : Int) = ((M - n : Nat) : Int) := wrapN _ (by omega)
      have w3 : IntKind.i64.wrap ((h : Int) + 1) = ((h + 1 : Nat) : Int) := by rw [wrap_i64 _ (by omega) (by omega)]; omega
      have w4 : IntKind.i64.wrap (((M - n : Nat) : Int) * ((h + 1 : Nat) : Int)) = (((M - n) * (h + 1) : Nat) : Int) := by rw [← Int.natCast_mul]; exact wrapN _ (by omega)
      have w5 : IntKind.i64.wrap ((((M - n) * (h + 1) : Nat) : Int) + (p : Int)) = (((M - n) * (h + 1) + p : Nat) : Int) := by rw [← Int.natCast_add]; exact wrapN _ (by omega)
      have w6 : IntKind.i64.wrap ((((M - n) * (h + 1) + p : Nat) : Int) - (i : Int)) = (((M - n) * (h + 1) + p - i : Nat) : Int) := by rw [wrap_i64 _ (by omega) (by omega)]; omega
      have w7 : IntKind.i64.wrap ((p : Int) + 1) = ((p + 1 : Nat) : Int) := by rw [wrap_i64 _ (by omega) (by omega)]; omega
      simp only [w1, w2, w3, w4, w5, w6, go_sem, Nat.reduceAdd, Nat.reduceEqDiff, Nat.reduceLT, reduceIte, reduceCtorEq, Nat.reduceBEq, Int.reduceLT, Int.reduceToNat, Int.reducePow, Nat.reduceLeDiff, Int.reduceLE, Nat.reduceMul, Nat.reduceSub]
      rw [dls] at h1
      generalize hd : (M - n) * (h + 1) + p - i = d at *
      have hd2 : d ≤ 549755813888 := by omega
      refine callGo_pure (refStep_pure d b hd2 h4) (by rfl) ?_
      have hal : acc.length ≤ 1099511627776 := by
        have := congrArg List.length h1
        rw [List.length_append] at this
        omega
      have hsl := stepS_len (b := b) hd2
      simp only [cat_txt2 acc (stepS d b) hal (by omega), w3, go_sem, Nat.reduceAdd, Nat.reduceEqDiff, Nat.reduceLT, reduceIte, reduceCtorEq, Nat.reduceBEq, Int.reduceLT, Int.reduceToNat, Int.reducePow, Nat.reduceLeDiff, Int.reduceLE, Nat.reduceMul, Nat.reduceSub]
      refine callGo_pure (refNext_pure d (h + 1) f (by omega) (by omega) (by omega)) (by rfl) ?_
      simp only [w7, go_sem, Nat.reduceAdd, Nat.reduceEqDiff, Nat.reduceLT, reduceIte, reduceCtorEq, Nat.reduceBEq, Int.reduceLT, Int.reduceToNat, Int.reducePow, Nat.reduceLeDiff, Int.reduceLE, Nat.reduceMul, Nat.reduceSub]
      have hle := least_pure L M (a + 1) (by omega) hL hM2
      rw [show (((a + 1 : Nat) : Int) - 1) = (a : Int) by omega] at hle
      refine callGo_pure hle (by rfl) ?_
      simp only [lfR, go_sem, Nat.reduceAdd, Nat.reduceEqDiff, Nat.reduceLT, reduceIte, reduceCtorEq, Nat.reduceBEq, Int.reduceLT, Int.reduceToNat, Int.reducePow, Nat.reduceLeDiff, Int.reduceLE, Nat.reduceMul, Nat.reduceSub]
      refine ⟨(acc ++ stepS d b, (M, p + 1, h + 1, adp d (h + 1) f, false), (M, a + 1)), weak_forget ?_ (List.Sublist.refl _) (List.Sublist.refl _), ⟨?_, g3, hM2, adp_le2 f (by omega), by simp only; omega, by simp only; omega, by simp only; omega⟩, by simp only; omega⟩
      · simp only [go_sem, Nat.reduceAdd, Nat.reduceEqDiff, Nat.reduceLT, reduceIte, reduceCtorEq, Nat.reduceBEq, Int.reduceLT, Int.reduceToNat, Int.reducePow, Nat.reduceLeDiff, Int.reduceLE, Nat.reduceMul, Nat.reduceSub, slotsBy, boxesBy, tipsBy, rawAt, nm, AV.ren, AV.renL, AV.under, AV.underL, List.all_nil, List.all_cons, bne_self_eq_false, List.getD_cons_zero, List.getD_cons_succ, List.length_nil, List.length_cons, and_true, true_and, slotsSub]
      · rw [txS, ← List.append_assoc] at h1
        exact h1

set_option maxRecDepth 10000 in
set_option maxHeartbeats 1000000 in
theorem refEncode_pure (l : List Int) (hl : l.length ≤ 35184372088064) : Pure Try.prog 16 [rS l none] [] (.tu [.lit (.string (encR l).1), .lit (.int .i64 (encR l).2)]) := by
  refine pure0 Try.func16 c16 n16 e16 r16 (by simp) (by rfl) ?_
  simp only [a16, astart, argSlots, runes_length, go_sem, Nat.reduceAdd, Nat.reduceEqDiff, Nat.reduceLT, reduceIte, reduceCtorEq, Nat.reduceBEq, Int.reduceLT, Int.reduceToNat, Int.reducePow, Nat.reduceLeDiff, Int.reduceLE, Nat.reduceMul, Nat.reduceSub]
  by_cases hlen : 2000 < l.length
  · have d1 : decide ((l.length : Int) > 2000) = true := by simp; omega
    have er : encR l = (⟨#[]⟩, 41) := by unfold encR; rw [if_pos hlen]
    simp only [d1, er, go_sem, Nat.reduceAdd, Nat.reduceEqDiff, Nat.reduceLT, reduceIte, reduceCtorEq, Nat.reduceBEq, Int.reduceLT, Int.reduceToNat, Int.reducePow, Nat.reduceLeDiff, Int.reduceLE, Nat.reduceMul, Nat.reduceSub]
    simp only [Done, resAV, resL, resOne, look_nil, look_cons, Nat.reduceEqDiff, if_true, if_false, reduceIte, ite_true, ite_false, Nat.zero_ne_one, Nat.one_ne_zero, reduceCtorEq, true_or, or_true, true_and, Option.some.injEq, AV.lit.injEq, Value.int.injEq, Value.bool.injEq]
  · have d1 : decide ((l.length : Int) > 2000) = false := by simp; omega
    simp only [d1, go_sem, Nat.reduceAdd, Nat.reduceEqDiff, Nat.reduceLT, reduceIte, reduceCtorEq, Nat.reduceBEq, Int.reduceLT, Int.reduceToNat, Int.reducePow, Nat.reduceLeDiff, Int.reduceLE, Nat.reduceMul, Nat.reduceSub]
    refine loop_by (α := Nat × Nat) (fun x => ⟨[(0, some (rS l none)), (4, some (.lit (.string (txt (pln ((l.take x.1).map Int.toNat)))))), (5, some (.lit (.int .i64 ((pln ((l.take x.1).map Int.toNat)).length : Int)))), (6, some (.lit (.int .i64 ((x.1 : Nat) : Int))))], [], [], x.2⟩)
      (fun x => x.1 ≤ l.length ∧ (∀ y ∈ l.take x.1, isSc y = true)) (fun x => l.length - x.1) (fun x y h => by
        have := congrArg (cnt 6) h
        simp [cnt, Ab.look] at this
        rw [this]) (0, 0) (weak_forget ?_ (List.Sublist.refl _) (List.Sublist.refl _)) ⟨by simp, by simp⟩ ?_
    · simp only [go_sem, Nat.reduceAdd, Nat.reduceEqDiff, Nat.reduceLT, reduceIte, reduceCtorEq, Nat.reduceBEq, Int.reduceLT, Int.reduceToNat, Int.reducePow, Nat.reduceLeDiff, Int.reduceLE, Nat.reduceMul, Nat.reduceSub, slotsBy, boxesBy, tipsBy, rawAt, nm, AV.ren, AV.renL, AV.under, AV.underL, List.all_nil, List.all_cons, bne_self_eq_false, List.getD_cons_zero, List.getD_cons_succ, List.length_nil, List.length_cons, and_true, true_and, slotsSub, Int.natCast_zero]
      exact ⟨rfl, rfl⟩
    · rintro ⟨j, nx⟩ ⟨h1, h2⟩
      simp only at h1 h2
      simp only [go_sem, Nat.reduceAdd, Nat.reduceEqDiff, Nat.reduceLT, reduceIte, reduceCtorEq, Nat.reduceBEq, Int.reduceLT, Int.reduceToNat, Int.reducePow, Nat.reduceLeDiff, Int.reduceLE, Nat.reduceMul, Nat.reduceSub]
      rcases Nat.lt_or_eq_of_le h1 with hj | hj
      · have w : IntKind.i64.wrap ((j : Int) + 1) = ((j + 1 : Nat) : Int) := by rw [wrap_i64 _ (by omega) (by omega)]; omega
        have htk : l.take (j + 1) = l.take j ++ [l[j]] := List.take_succ_eq_append_getElem hj
        have hmem := List.getElem_mem hj
        have hx := runes_at hj
        simp only [runes_length, dec_lt hj, hj, hx, go_sem, Nat.reduceAdd, Nat.reduceEqDiff, Nat.reduceLT, reduceIte, reduceCtorEq, Nat.reduceBEq, Int.reduceLT, Int.reduceToNat, Int.reducePow, Nat.reduceLeDiff, Int.reduceLE, Nat.reduceMul, Nat.reduceSub]
        generalize l[j] = r at *
        refine callGo_pure (Scalar_pure r) (by rfl) ?_
        simp only [go_sem, Nat.reduceAdd, Nat.reduceEqDiff, Nat.reduceLT, reduceIte, reduceCtorEq, Nat.reduceBEq, Int.reduceLT, Int.reduceToNat, Int.reducePow, Nat.reduceLeDiff, Int.reduceLE, Nat.reduceMul, Nat.reduceSub]
        cases hs : isSc r
        · have er : encR l = (⟨#[]⟩, 40) := by
            unfold encR
            rw [if_neg hlen, if_neg]
            intro hc
            have := List.all_eq_true.1 hc r hmem
            rw [hs] at this; cases this
          simp only [er, Bool.not_false, go_sem, Nat.reduceAdd, Nat.reduceEqDiff, Nat.reduceLT, reduceIte, reduceCtorEq, Nat.reduceBEq, Int.reduceLT, Int.reduceToNat, Int.reducePow, Nat.reduceLeDiff, Int.reduceLE, Nat.reduceMul, Nat.reduceSub]
          simp only [Done, resAV, resL, resOne, look_nil, look_cons, Nat.reduceEqDiff, if_true, if_false, reduceIte, ite_true, ite_false, Nat.zero_ne_one, Nat.one_ne_zero, reduceCtorEq, true_or, or_true, true_and, Option.some.injEq, AV.lit.injEq, Value.int.injEq, Value.bool.injEq]
        · have h2' : ∀ y ∈ l.take (j + 1), isSc y = true := fun y hy => by
            rw [htk] at hy
            rcases List.mem_append.1 hy with hy | hy
            · exact h2 y hy
            · simp at hy; subst hy; exact hs
          have hr0 : 0 ≤ r ∧ r ≤ 1114111 := by simp [isSc] at hs; omega
          have hpln : (pln ((l.take j).map Int.toNat)).length ≤ 2000 := by
            have := List.length_filter_le (fun x => decide (x < 128)) ((l.take j).map Int.toNat)
            rw [List.length_map] at this
            have := List.length_take_le j l
            unfold pln; omega
          by_cases hr : r < 128
          · have d2 : decide (r < 128) = true := by simp; omega
            have wu : IntKind.u8.wrap r = ((r.toNat : Nat) : Int) := by rw [wrap_u8 _ (by omega) (by omega)]; omega
            have hpl : pln ((l.take (j + 1)).map Int.toNat) = pln ((l.take j).map Int.toNat) ++ [r.toNat] := by
              unfold pln
              rw [htk, List.map_append, List.filter_append, List.map_singleton, List.filter_cons_of_pos (by simp; omega)]; rfl
            have w2 : IntKind.i64.wrap (((pln ((l.take j).map Int.toNat)).length : Int) + 1) = (((pln ((l.take j).map Int.toNat)).length + 1 : Nat) : Int) := by rw [wrap_i64 _ (by omega) (by omega)]; omega
            simp only [Bool.not_true, d2, wu, hj, hx, cat_txt _ _ (show (pln ((l.take j).map Int.toNat)).length ≤ 1099511627776 by omega), runes_length, w, w2, go_sem, Nat.reduceAdd, Nat.reduceEqDiff, Nat.reduceLT, reduceIte, reduceCtorEq, Nat.reduceBEq, Int.reduceLT, Int.reduceToNat, Int.reducePow, Nat.reduceLeDiff, Int.reduceLE, Nat.reduceMul, Nat.reduceSub]
            refine ⟨(j + 1, nx + 1), weak_forget ?_ (List.Sublist.refl _) (List.nil_sublist _), ⟨hj, h2'⟩, by simp only; omega⟩
            simp only [hpl, List.length_append, List.length_singleton, go_sem, Nat.reduceAdd, Nat.reduceEqDiff, Nat.reduceLT, reduceIte, reduceCtorEq, Nat.reduceBEq, Int.reduceLT, Int.reduceToNat, Int.reducePow, Nat.reduceLeDiff, Int.reduceLE, Nat.reduceMul, Nat.reduceSub, slotsBy, boxesBy, tipsBy, rawAt, nm, AV.ren, AV.renL, AV.under, AV.underL, List.all_nil, List.all_cons, bne_self_eq_false, List.getD_cons_zero, List.getD_cons_succ, List.length_nil, List.length_cons, and_true, true_and, slotsSub]
          · have d2 : decide (r < 128) = false := by simp; omega
            have hpl : pln ((l.take (j + 1)).map Int.toNat) = pln ((l.take j).map Int.toNat) := by
              unfold pln
              rw [htk, List.map_append, List.filter_append, List.map_singleton, List.filter_cons_of_neg (by simp; omega)]; simp
            simp only [Bool.not_true, d2, w, hj, hx, go_sem, Nat.reduceAdd, Nat.reduceEqDiff, Nat.reduceLT, reduceIte, reduceCtorEq, Nat.reduceBEq, Int.reduceLT, Int.reduceToNat, Int.reducePow, Nat.reduceLeDiff, Int.reduceLE, Nat.reduceMul, Nat.reduceSub]
            refine ⟨(j + 1, nx), weak_forget ?_ (List.Sublist.refl _) (List.Sublist.refl _), ⟨hj, h2'⟩, by simp only; omega⟩
            simp only [hpl, go_sem, Nat.reduceAdd, Nat.reduceEqDiff, Nat.reduceLT, reduceIte, reduceCtorEq, Nat.reduceBEq, Int.reduceLT, Int.reduceToNat, Int.reducePow, Nat.reduceLeDiff, Int.reduceLE, Nat.reduceMul, Nat.reduceSub, slotsBy, boxesBy, tipsBy, rawAt, nm, AV.ren, AV.renL, AV.under, AV.underL, List.all_nil, List.all_cons, bne_self_eq_false, List.getD_cons_zero, List.getD_cons_succ, List.length_nil, List.length_cons, and_true, true_and, slotsSub]
      · subst hj
        rw [List.take_length] at h2
        have er : encR l = (txt (encT (l.map Int.toNat)), 0) := by unfold encR; rw [if_neg hlen, if_pos (List.all_eq_true.2 h2)]
        have hof : rS l none = rS (ofN (l.map Int.toNat)) none := by rw [ofN_toNat h2]
        have hS : Scs (l.map Int.toNat) := fun x hx => by
          obtain ⟨y, hy, rfl⟩ := List.mem_map.1 hx
          have := h2 y hy
          have h0 : 0 ≤ y := by simp [isSc] at this; omega
          rw [Int.toNat_of_nonneg h0]; exact this
        have hLl : (l.map Int.toNat).length ≤ 2000 := by rw [List.length_map]; omega
        have hpl2 := List.length_filter_le (fun x => decide (x < 128)) (l.map Int.toNat)
        rw [er, hof]
        simp only [List.take_length, runes_length, ofN_length, List.length_map, dec_irr, go_sem, Nat.reduceAdd, Nat.reduceEqDiff, Nat.reduceLT, reduceIte, reduceCtorEq, Nat.reduceBEq, Int.reduceLT, Int.reduceToNat, Int.reducePow, Nat.reduceLeDiff, Int.reduceLE, Nat.reduceMul, Nat.reduceSub]
        generalize l.map Int.toNat = L at *
        have hpm : (pln L).length ≤ 2000 := by unfold pln; omega
        refine cGo_split (fun hc => ?_) (fun hc => ?_)
        · have hP : pln L ≠ [] := by simp only [decide_eq_true_eq] at hc; intro e; rw [e] at hc; simp at hc
          have hd : pln L ++ [45] = pln L ++ dash (pln L) := by unfold dash; rw [if_neg hP]
          have e45 : binStr .add (txt (pln L)) ⟨#[45]⟩ = some (.string (txt (pln L ++ dash (pln L)))) := by
            rw [← hd]; exact cat_txt (pln L) 45 (by omega)
          simp only [e45, go_sem, Nat.reduceAdd, Nat.reduceEqDiff, Nat.reduceLT, reduceIte, reduceCtorEq, Nat.reduceBEq, Int.reduceLT, Int.reduceToNat, Int.reducePow, Nat.reduceLeDiff, Int.reduceLE, Nat.reduceMul, Nat.reduceSub]
          exact enc_tail hS hLl (by simp only [Ab.look, Nat.reduceEqDiff, if_true, if_false]) (by simp only [Ab.look, Nat.reduceEqDiff, if_true, if_false]) (by simp only [Ab.look, Nat.reduceEqDiff, if_true, if_false])
        · have hP : pln L = [] := by
            simp only [decide_eq_false_iff_not] at hc
            exact List.length_eq_zero_iff.1 (by omega)
          have hd : pln L ++ dash (pln L) = pln L := by unfold dash; rw [if_pos hP, List.append_nil]
          simp only [go_sem, Nat.reduceAdd, Nat.reduceEqDiff, Nat.reduceLT, reduceIte, reduceCtorEq, Nat.reduceBEq, Int.reduceLT, Int.reduceToNat, Int.reducePow, Nat.reduceLeDiff, Int.reduceLE, Nat.reduceMul, Nat.reduceSub]
          exact enc_tail hS hLl (by simp only [Ab.look, Nat.reduceEqDiff, if_true, if_false]) (by simp only [Ab.look, Nat.reduceEqDiff, if_true, if_false, hd]) (by simp only [Ab.look, Nat.reduceEqDiff, if_true, if_false])
end Go.Proofs.Ytmhpjoadfgplgaa

/-! ## PvB -/

namespace Go.Proofs.Ytmhpjoadfgplgaa
open Go Go.Ab
def a50 : ACode :=
  (.seq (.reg [⟨(.some 2), (.mv (.k (.string ⟨#[]⟩))), .none⟩, ⟨(.some 3), (.mv (.k (.string ⟨#[]⟩))), .none⟩]) (.seq (.seq (.reg [⟨(.some 5), (.mv (.t 0)), .none⟩, ⟨(.some 6), (.lenS (.t 5)), .none⟩,
  ⟨(.some 7), (.bin .sub (.t 6) (.k (.int .i64 1))), .none⟩, ⟨(.some 4), (.mv (.t 7)), .none⟩]) (.block 0 (.loop (.seq (.seq (.reg [⟨(.some 8), (.mv (.t 4)), .none⟩, ⟨(.some 9), (.bin .gtr (.t 8) (.k
  (.int .i64 0))), .none⟩]) (.cond (.t 9) .skip (.exit 0))) (.seq (.block 1 (.seq (.reg [⟨(.some 12), (.mv (.t 0)), .none⟩, ⟨(.some 13), (.mv (.t 4)), .none⟩, ⟨(.some 14), (.ixS (.t 12) (.t 13)),
  .none⟩, ⟨(.some 15), (.bin .eql (.t 14) (.k (.int .u8 45))), .none⟩]) (.cond (.t 15) (.seq (.dreg [⟨(.some 16), (.mv (.t 0)), .none⟩, ⟨(.some 17), (.mv (.t 4)), .none⟩, ⟨(.some 18), (.slS (.t 16)
  .none (.some (.t 17))), .none⟩, ⟨(.some 19), (.mv (.t 0)), .none⟩, ⟨(.some 20), (.mv (.t 4)), .none⟩, ⟨(.some 21), (.bin .add (.t 20) (.k (.int .i64 1))), .none⟩, ⟨(.some 22), (.slS (.t 19) (.some (.t
  21)) .none), .none⟩, ⟨(.some 2), (.mv (.t 18)), .none⟩, ⟨(.some 3), (.mv (.t 22)), .none⟩]) .ret) .skip))) (.reg [⟨(.some 10), (.mv (.t 4)), .none⟩, ⟨(.some 11), (.bin .sub (.t 10) (.k (.int .i64
  1))), .none⟩, ⟨(.some 4), (.mv (.t 11)), .none⟩])))))) (.seq (.reg [⟨(.some 23), (.mv (.t 0)), .none⟩, ⟨(.some 2), (.mv (.k (.string ⟨#[]⟩))), .none⟩, ⟨(.some 3), (.mv (.t 23)), .none⟩]) .ret)))
theorem c50 : Try.f50.body.bind (cCode Try.prog 24) = some a50 := by kernel_rfl
theorem r50 : Try.f50.results.toList = [(.tmp 2), (.tmp 3)] := by kernel_rfl
theorem n50 : Try.f50.ntmps = 24 := by kernel_rfl
theorem e50 : Enters Try.prog 50 := enters_of Try.func50 (by kernel_rfl) (by kernel_rfl)
def a51 : ACode :=
  (.seq (.reg [⟨(.some 6), (.mv (.k (.int .i64 0))), .none⟩, ⟨(.some 7), (.mv (.k (.int .i64 0))), .none⟩]) (.seq (.reg [⟨(.some 8), (.mv (.k (.int .i64 0))), .none⟩, ⟨(.some 9), (.mv (.k (.int .i64
  1))), .none⟩]) (.seq (.seq (.reg [⟨(.some 10), (.mv (.k (.int .i64 1))), .none⟩]) (.block 0 (.loop (.seq (.seq (.reg [⟨(.some 13), (.mv (.t 1)), .none⟩, ⟨(.some 14), (.mv (.t 0)), .none⟩, ⟨(.some 15),
  (.lenS (.t 14)), .none⟩, ⟨(.some 16), (.bin .lss (.t 13) (.t 15)), .none⟩]) (.cond (.t 16) .skip (.exit 0))) (.seq (.block 1 (.seq (.reg [⟨(.some 19), (.mv (.t 0)), .none⟩, ⟨(.some 20), (.mv (.t 1)),
  .none⟩, ⟨(.some 21), (.ixS (.t 19) (.t 20)), .none⟩, ⟨(.some 22), (.call (.f 80) [(.t 21)]), .none⟩, ⟨(.some 11), (.mv (.t 22)), .none⟩]) (.seq (.reg [⟨(.some 23), (.mv (.t 1)), .none⟩, ⟨(.some 24),
  (.bin .add (.t 23) (.k (.int .i64 1))), .none⟩, ⟨(.some 1), (.mv (.t 24)), .none⟩]) (.seq (.seq (.reg [⟨(.some 25), (.mv (.t 11)), .none⟩, ⟨(.some 26), (.bin .lss (.t 25) (.k (.int .i64 0))), .none⟩,
  ⟨(.some 27), (.mv (.t 26)), .none⟩, ⟨(.some 28), (.mv (.t 11)), (.some (27, false))⟩, ⟨(.some 29), (.bin .gtr (.t 28) (.k (.int .i64 0))), (.some (27, false))⟩, ⟨(.some 30), (.mv (.t 29)), (.some (27,
  false))⟩, ⟨(.some 31), (.mv (.t 9)), (.some (30, true))⟩, ⟨(.some 32), (.bin .gtr (.t 31) (.k (.int .i64 11143348224))), (.some (30, true))⟩, ⟨(.some 33), (.pick (.t 30) (.t 32) (.k (.bool false))),
  (.some (27, false))⟩, ⟨(.some 34), (.pick (.t 27) (.k (.bool true)) (.t 33)), .none⟩]) (.cond (.t 34) (.seq (.reg [⟨(.some 6), (.mv (.k (.int .i64 0))), .none⟩, ⟨(.some 7), (.mv (.k (.int .i64
  (-1)))), .none⟩]) .ret) .skip)) (.seq (.reg [⟨(.some 35), (.mv (.t 8)), .none⟩, ⟨(.some 36), (.mv (.t 11)), .none⟩, ⟨(.some 37), (.mv (.t 9)), .none⟩, ⟨(.some 38), (.bin .mul (.t 36) (.t 37)), .none⟩,
  ⟨(.some 39), (.bin .add (.t 35) (.t 38)), .none⟩, ⟨(.some 8), (.mv (.t 39)), .none⟩]) (.seq (.seq (.reg [⟨(.some 40), (.mv (.t 8)), .none⟩, ⟨(.some 41), (.bin .gtr (.t 40) (.k (.int .i64
  11143348224))), .none⟩]) (.cond (.t 41) (.seq (.reg [⟨(.some 6), (.mv (.k (.int .i64 0))), .none⟩, ⟨(.some 7), (.mv (.k (.int .i64 (-1)))), .none⟩]) .ret) .skip)) (.seq (.reg [⟨(.some 42), (.mv (.t
  10)), .none⟩, ⟨(.some 43), (.mv (.t 2)), .none⟩, ⟨(.some 44), (.call (.f 75) [(.t 42), (.t 43)]), .none⟩, ⟨(.some 12), (.mv (.t 44)), .none⟩]) (.seq (.seq (.reg [⟨(.some 45), (.mv (.t 11)), .none⟩,
  ⟨(.some 46), (.mv (.t 12)), .none⟩, ⟨(.some 47), (.bin .lss (.t 45) (.t 46)), .none⟩]) (.cond (.t 47) (.seq (.reg [⟨(.some 48), (.mv (.t 8)), .none⟩, ⟨(.some 49), (.mv (.t 1)), .none⟩, ⟨(.some 6),
  (.mv (.t 48)), .none⟩, ⟨(.some 7), (.mv (.t 49)), .none⟩]) .ret) .skip)) (.seq (.reg [⟨(.some 50), (.mv (.t 9)), .none⟩, ⟨(.some 51), (.bin .leq (.t 50) (.k (.int .i64 11143348224))), .none⟩]) (.cond
  (.t 51) (.reg [⟨(.some 52), (.mv (.t 9)), .none⟩, ⟨(.some 53), (.mv (.t 12)), .none⟩, ⟨(.some 54), (.bin .sub (.k (.int .i64 36)) (.t 53)), .none⟩, ⟨(.some 55), (.bin .mul (.t 52) (.t 54)), .none⟩,
  ⟨(.some 9), (.mv (.t 55)), .none⟩]) .skip)))))))))) (.reg [⟨(.some 17), (.mv (.t 10)), .none⟩, ⟨(.some 18), (.bin .add (.t 17) (.k (.int .i64 1))), .none⟩, ⟨(.some 10), (.mv (.t 18)), .none⟩]))))))
  (.seq (.reg [⟨(.some 6), (.mv (.k (.int .i64 0))), .none⟩, ⟨(.some 7), (.mv (.k (.int .i64 (-1)))), .none⟩]) .ret))))
theorem c51 : Try.f51.body.bind (cCode Try.prog 56) = some a51 := by kernel_rfl
theorem r51 : Try.f51.results.toList = [(.tmp 6), (.tmp 7)] := by kernel_rfl
theorem n51 : Try.f51.ntmps = 56 := by kernel_rfl
theorem e51 : Enters Try.prog 51 := enters_of Try.func51 (by kernel_rfl) (by kernel_rfl)

theorem rd_drop (b : Nat) : ∀ (s : List Nat) (k d w : Nat) {D : Nat} {r : List Nat}, rd b k d w s = some (D, r) → r = s.drop (s.length - r.length)
  | [], k, d, w, D, r, h => by simp [rd] at h
  | c :: s, k, d, w, D, r, h => by
    have hl := rd_lt b _ _ _ _ h
    simp only [List.length_cons] at hl
    simp only [rd] at h
    have e : (c :: s).drop ((c :: s).length - r.length) = s.drop (s.length - r.length) := by
      rw [List.length_cons, show s.length + 1 - r.length = (s.length - r.length) + 1 by omega, List.drop_succ_cons]
    rw [e]
    split at h
    · cases h
    · split at h
      · cases h
      · split at h
        · simp only [Option.some.injEq, Prod.mk.injEq] at h
          rw [h.2]; simp
        · exact rd_drop b s _ _ _ h

theorem lastN_zero {c : Nat} {s : List Nat} : ∀ {k : Nat}, (∀ j, 0 < j → j < k → s[j]? ≠ some c) → lastN c s k = none ∨ lastN c s k = some 0
  | 0, _ => .inl rfl
  | k + 1, h => by
    rw [lastN]
    rcases Nat.eq_zero_or_pos k with h0 | h0
    · subst h0
      by_cases hc : s[0]? = some c
      · right; rw [if_pos hc]
      · left; rw [if_neg hc]; rfl
    · rw [if_neg (h k h0 (Nat.lt_succ_self _))]
      exact lastN_zero fun j h1 h2 => h j h1 (by omega)

set_option maxRecDepth 10000 in
theorem refCut_pure (s : List Nat) (hs : ∀ n ∈ s, n ≤ 255) (hl : s.length ≤ 1099511627776) : Pure Try.prog 50 [.lit (.string (txt s))] [] (.tu [.lit (.string (txt (cutS s).1)), .lit (.string (txt (cutS s).2))]) := by
  refine pure0 Try.func50 c50 n50 e50 r50 (by simp) (by rfl) ?_
  have w0 : IntKind.i64.wrap ((s.length : Int) - 1) = (s.length : Int) - 1 := wrap_i64 _ (by omega) (by omega)
  simp only [a50, astart, argSlots, txt_size, w0, go_sem, Nat.reduceAdd, Nat.reduceEqDiff, Nat.reduceLT, reduceIte, reduceCtorEq, Nat.reduceBEq, Int.reduceLT, Int.reduceToNat, Int.reducePow, Nat.reduceLeDiff, Int.reduceLE, Nat.reduceMul, Nat.reduceSub]
  refine loop_by (α := Nat) (fun x => ⟨[(0, some (.lit (.string (txt s)))), (4, some (.lit (.int .i64 ((x : Int) - 1))))], [], [], 0⟩)
    (fun x => x ≤ s.length ∧ lastN 45 s s.length = lastN 45 s x) (fun x => x) (fun x y h => by
      have := congrArg (fun z => match Ab.look z.slots 4 with | some (.lit (.int .i64 n)) => n | _ => 0) h
      simp [Ab.look] at this
      omega) s.length (weak_forget ?_ (List.Sublist.refl _) (List.Sublist.refl _)) ⟨Nat.le_refl _, rfl⟩ ?_
  · simp only [go_sem, Nat.reduceAdd, Nat.reduceEqDiff, Nat.reduceLT, reduceIte, reduceCtorEq, Nat.reduceBEq, Int.reduceLT, Int.reduceToNat, Int.reducePow, Nat.reduceLeDiff, Int.reduceLE, Nat.reduceMul, Nat.reduceSub, slotsBy, boxesBy, tipsBy, rawAt, nm, AV.ren, AV.renL, AV.under, AV.underL, List.all_nil, List.all_cons, bne_self_eq_false, List.getD_cons_zero, List.getD_cons_succ, List.length_nil, List.length_cons, and_true, true_and, slotsSub]
  · rintro x ⟨h1, h2⟩
    simp only [go_sem, Nat.reduceAdd, Nat.reduceEqDiff, Nat.reduceLT, reduceIte, reduceCtorEq, Nat.reduceBEq, Int.reduceLT, Int.reduceToNat, Int.reducePow, Nat.reduceLeDiff, Int.reduceLE, Nat.reduceMul, Nat.reduceSub]
    by_cases h0 : x ≤ 1
    · have d1 : decide ((x : Int) - 1 > 0) = false := by simp; omega
      have hc : cutS s = ([], s) := by
        unfold cutS
        rw [h2]
        rcases lastN_zero (c := 45) (s := s) (k := x) (fun j h3 h4 => by omega) with h | h <;> rw [h] <;> rfl
      simp only [d1, hc, txt_nil, go_sem, Nat.reduceAdd, Nat.reduceEqDiff, Nat.reduceLT, reduceIte, reduceCtorEq, Nat.reduceBEq, Int.reduceLT, Int.reduceToNat, Int.reducePow, Nat.reduceLeDiff, Int.reduceLE, Nat.reduceMul, Nat.reduceSub]
      simp only [Done, resAV, resL, resOne, look_nil, look_cons, Nat.reduceEqDiff, if_true, if_false, reduceIte, ite_true, ite_false, Nat.zero_ne_one, Nat.one_ne_zero, reduceCtorEq, true_or, or_true, true_and, Option.some.injEq, AV.lit.injEq, Value.int.injEq, Value.bool.injEq]
    · obtain ⟨y, rfl⟩ : ∃ y, x = y + 1 := ⟨x - 1, by omega⟩
      have hy : y < s.length := by omega
      have ey : (((y + 1 : Nat) : Int) - 1) = (y : Int) := by omega
      have d1 : decide ((y : Int) > 0) = true := by simp; omega
      have hsy := hs s[y] (List.getElem_mem hy)
      rw [ey]
      simp only [d1, txt_get hy, u8_int hsy, go_sem, Nat.reduceAdd, Nat.reduceEqDiff, Nat.reduceLT, reduceIte, reduceCtorEq, Nat.reduceBEq, Int.reduceLT, Int.reduceToNat, Int.reducePow, Nat.reduceLeDiff, Int.reduceLE, Nat.reduceMul, Nat.reduceSub]
      rw [lastN, List.getElem?_eq_getElem hy] at h2
      by_cases hc : s[y] = 45
      · have d2 : (((s[y] : Nat) : Int) == 45) = true := by simp [hc]
        rw [if_pos (by rw [hc])] at h2
        have hcut := cutS_at h2 (by omega)
        have w1 : IntKind.i64.wrap ((y : Int) + 1) = ((y + 1 : Nat) : Int) := by rw [wrap_i64 _ (by omega) (by omega)]; omega
        have hz : (0 ≤ y) = True := by simp
        have e1 : (txt s).extract 0 y = txt (s.take y) := by rw [txt_slice, List.drop_zero]
        simp only [d2, w1, hy, hz, hcut, Nat.le_of_lt hy, Nat.succ_le_of_lt hy, Nat.le_refl, txt_size, e1, txt_tail, if_true, go_sem, Nat.reduceAdd, Nat.reduceEqDiff, Nat.reduceLT, reduceIte, reduceCtorEq, Nat.reduceBEq, Int.reduceLT, Int.reduceToNat, Int.reducePow, Nat.reduceLeDiff, Int.reduceLE, Nat.reduceMul, Nat.reduceSub]
        simp only [Done, resAV, resL, resOne, look_nil, look_cons, Nat.reduceEqDiff, if_true, if_false, reduceIte, ite_true, ite_false, Nat.zero_ne_one, Nat.one_ne_zero, reduceCtorEq, true_or, or_true, true_and, Option.some.injEq, AV.lit.injEq, Value.int.injEq, Value.bool.injEq]
      · have d2 : (((s[y] : Nat) : Int) == 45) = false := by simp; omega
        rw [if_neg (by simpa using hc)] at h2
        have w1 : IntKind.i64.wrap ((y : Int) - 1) = (y : Int) - 1 := wrap_i64 _ (by omega) (by omega)
        simp only [d2, w1, go_sem, Nat.reduceAdd, Nat.reduceEqDiff, Nat.reduceLT, reduceIte, reduceCtorEq, Nat.reduceBEq, Int.reduceLT, Int.reduceToNat, Int.reducePow, Nat.reduceLeDiff, Int.reduceLE, Nat.reduceMul, Nat.reduceSub]
        refine ⟨y, weak_forget ?_ (List.Sublist.refl _) (List.Sublist.refl _), ⟨by omega, h2⟩, by omega⟩
        simp only [go_sem, Nat.reduceAdd, Nat.reduceEqDiff, Nat.reduceLT, reduceIte, reduceCtorEq, Nat.reduceBEq, Int.reduceLT, Int.reduceToNat, Int.reducePow, Nat.reduceLeDiff, Int.reduceLE, Nat.reduceMul, Nat.reduceSub, slotsBy, boxesBy, tipsBy, rawAt, nm, AV.ren, AV.renL, AV.under, AV.underL, List.all_nil, List.all_cons, bne_self_eq_false, List.getD_cons_zero, List.getD_cons_succ, List.length_nil, List.length_cons, and_true, true_and, slotsSub]

/-- What it reads, and where it stands. -/
def readR (n : Nat) : Option (Nat × List Nat) → AV
  | some (d, r) => .tu [.lit (.int .i64 (d : Int)), .lit (.int .i64 ((n - r.length : Nat) : Int))]
  | none => .tu [.lit (.int .i64 0), .lit (.int .i64 (-1))]

set_option maxRecDepth 10000 in
theorem refRead_pure (s : List Nat) (p b : Nat) (hs : ∀ n ∈ s, n ≤ 255) (hl : s.length ≤ 1000000) (hb : b ≤ 1000) (hp : p ≤ s.length) : Pure Try.prog 51 [.lit (.string (txt s)), .lit (.int .i64 (p : Int)), .lit (.int .i64 (b : Int))] [] (readR s.length (rd b 1 0 1 (s.drop p))) := by
  refine pure0 Try.func51 c51 n51 e51 r51 (by simp) (by cases rd b 1 0 1 (s.drop p) <;> rfl) ?_
  simp only [a51, astart, argSlots, go_sem, Nat.reduceAdd, Nat.reduceEqDiff, Nat.reduceLT, reduceIte, reduceCtorEq, Nat.reduceBEq, Int.reduceLT, Int.reduceToNat, Int.reducePow, Nat.reduceLeDiff, Int.reduceLE, Nat.reduceMul, Nat.reduceSub]
  refine loop_by (α := Nat × Nat × Nat × Nat × Nat) (fun x => ⟨[(0, some (.lit (.string (txt s)))), (1, some (.lit (.int .i64 ((x.1 : Nat) : Int)))), (2, some (.lit (.int .i64 (b : Int)))), (8, some (.lit (.int .i64 ((x.2.1 : Nat) : Int)))), (9, some (.lit (.int .i64 ((x.2.2.1 : Nat) : Int)))), (10, some (.lit (.int .i64 ((x.2.2.2.1 : Nat) : Int))))], [], [], 0⟩)
    (fun x => x.1 ≤ s.length ∧ rd b 1 0 1 (s.drop p) = rd b x.2.2.2.1 x.2.1 x.2.2.2.2 (s.drop x.1) ∧ x.2.2.2.1 ≤ x.1 + 1 ∧ x.2.1 ≤ 11143348224 ∧ ((x.2.2.2.2 ≤ 11143348224 ∧ x.2.2.1 = x.2.2.2.2) ∨ (11143348224 < x.2.2.2.2 ∧ 11143348224 < x.2.2.1 ∧ x.2.2.1 ≤ 401160536064))) (fun x => s.length - x.1) (fun x y h => by
      have := congrArg (cnt 1) h
      simp [cnt, Ab.look] at this
      rw [this]) (p, 0, 1, 1, 1) (weak_forget ?_ (List.Sublist.refl _) (List.Sublist.refl _)) ⟨hp, rfl, by simp only; omega, by simp, .inl ⟨by simp, rfl⟩⟩ ?_
  · simp only [go_sem, Nat.reduceAdd, Nat.reduceEqDiff, Nat.reduceLT, reduceIte, reduceCtorEq, Nat.reduceBEq, Int.reduceLT, Int.reduceToNat, Int.reducePow, Nat.reduceLeDiff, Int.reduceLE, Nat.reduceMul, Nat.reduceSub, slotsBy, boxesBy, tipsBy, rawAt, nm, AV.ren, AV.renL, AV.under, AV.underL, List.all_nil, List.all_cons, bne_self_eq_false, List.getD_cons_zero, List.getD_cons_succ, List.length_nil, List.length_cons, and_true, true_and, slotsSub, Int.natCast_zero]
    exact rfl
  · rintro ⟨j, d, wm, k, w⟩ ⟨h1, h2, h3, h4, h5⟩
    simp only at h1 h2 h3 h4 h5
    simp only [txt_size, go_sem, Nat.reduceAdd, Nat.reduceEqDiff, Nat.reduceLT, reduceIte, reduceCtorEq, Nat.reduceBEq, Int.reduceLT, Int.reduceToNat, Int.reducePow, Nat.reduceLeDiff, Int.reduceLE, Nat.reduceMul, Nat.reduceSub]
    rcases Nat.lt_or_eq_of_le h1 with hj | hj
    · have hdr : s.drop j = s[j] :: s.drop (j + 1) := List.drop_eq_getElem_cons hj
      have hc := hs s[j] (List.getElem_mem hj)
      have wj : IntKind.i64.wrap ((j : Int) + 1) = ((j + 1 : Nat) : Int) := by rw [wrap_i64 _ (by omega) (by omega)]; omega
      simp only [dec_lt hj, txt_get hj, u8_int hc, go_sem, Nat.reduceAdd, Nat.reduceEqDiff, Nat.reduceLT, reduceIte, reduceCtorEq, Nat.reduceBEq, Int.reduceLT, Int.reduceToNat, Int.reducePow, Nat.reduceLeDiff, Int.reduceLE, Nat.reduceMul, Nat.reduceSub]
      rw [hdr, rd] at h2
      clear hdr
      generalize s[j] = c at *
      refine callGo_pure (worth_pure c hc) (by rfl) ?_
      cases hw : wth c with
      | none =>
        rw [hw] at h2
        have er : readR s.length (rd b 1 0 1 (s.drop p)) = .tu [.lit (.int .i64 0), .lit (.int .i64 (-1))] := by rw [h2]; rfl
        have d1 : decide ((-1 : Int) < 0) = true := by decide
        simp only [er, d1, wj, go_sem, Nat.reduceAdd, Nat.reduceEqDiff, Nat.reduceLT, reduceIte, reduceCtorEq, Nat.reduceBEq, Int.reduceLT, Int.reduceToNat, Int.reducePow, Nat.reduceLeDiff, Int.reduceLE, Nat.reduceMul, Nat.reduceSub]
        simp only [Done, resAV, resL, resOne, look_nil, look_cons, Nat.reduceEqDiff, if_true, if_false, reduceIte, ite_true, ite_false, Nat.zero_ne_one, Nat.one_ne_zero, reduceCtorEq, true_or, or_true, true_and, Option.some.injEq, AV.lit.injEq, Value.int.injEq, Value.bool.injEq]
      | some g =>
        rw [hw] at h2
        simp only at h2
        obtain ⟨hg, _⟩ := wth_some hw
        have d1 : decide ((g : Int) < 0) = false := by simp
        by_cases hbad : 0 < g ∧ 11143348224 < w
        · rw [if_pos (.inl hbad)] at h2
          have er : readR s.length (rd b 1 0 1 (s.drop p)) = .tu [.lit (.int .i64 0), .lit (.int .i64 (-1))] := by rw [h2]; rfl
          have d2 : decide ((g : Int) > 0) = true := by simp; omega
          have d3 : decide ((wm : Int) > 11143348224) = true := by simp; omega
          simp only [er, d1, d2, d3, wj, go_sem, Nat.reduceAdd, Nat.reduceEqDiff, Nat.reduceLT, reduceIte, reduceCtorEq, Nat.reduceBEq, Int.reduceLT, Int.reduceToNat, Int.reducePow, Nat.reduceLeDiff, Int.reduceLE, Nat.reduceMul, Nat.reduceSub]
          simp only [Done, resAV, resL, resOne, look_nil, look_cons, Nat.reduceEqDiff, if_true, if_false, reduceIte, ite_true, ite_false, Nat.zero_ne_one, Nat.one_ne_zero, reduceCtorEq, true_or, or_true, true_and, Option.some.injEq, AV.lit.injEq, Value.int.injEq, Value.bool.injEq]
        · have hgw : g * w ≤ 35 * 11143348224 ∧ g * wm = g * w := by
            rcases Nat.eq_zero_or_pos g with h0 | h0
            · subst h0; omega
            · have e : wm = w := by omega
              exact ⟨Nat.mul_le_mul (by omega) (by omega), by rw [e]⟩
          have w1 : IntKind.i64.wrap ((g : Int) * (wm : Int)) = ((g * w : Nat) : Int) := by rw [← Int.natCast_mul, hgw.2]; exact wrapN _ (by omega)
          have w2 : IntKind.i64.wrap ((d : Int) + ((g * w : Nat) : Int)) = ((d + g * w : Nat) : Int) := by rw [← Int.natCast_add]; exact wrapN _ (by omega)
          have wk : IntKind.i64.wrap ((k : Int) + 1) = ((k + 1 : Nat) : Int) := by rw [wrap_i64 _ (by omega) (by omega)]; omega
          have ht1 := thr_pos k b
          have ht2 := thr_le k b
          have hgt : (decide ((g : Int) > 0) = true ∧ decide ((wm : Int) > 11143348224) = false) ∨ decide ((g : Int) > 0) = false := by
            simp only [decide_eq_true_eq, decide_eq_false_iff_not]; omega
          by_cases hf : 11143348224 < d + g * w
          · rw [if_pos (.inr hf)] at h2
            have er : readR s.length (rd b 1 0 1 (s.drop p)) = .tu [.lit (.int .i64 0), .lit (.int .i64 (-1))] := by rw [h2]; rfl
            have d4 : decide (((d + g * w : Nat) : Int) > 11143348224) = true := by simp; omega
            rcases hgt with ⟨d2, d3⟩ | d2
            all_goals
              try simp only [er, d1, d2, d3, wj, w1, w2, d4, go_sem, Nat.reduceAdd, Nat.reduceEqDiff, Nat.reduceLT, reduceIte, reduceCtorEq, Nat.reduceBEq, Int.reduceLT, Int.reduceToNat, Int.reducePow, Nat.reduceLeDiff, Int.reduceLE, Nat.reduceMul, Nat.reduceSub]
              try simp only [er, d1, d2, wj, w1, w2, d4, go_sem, Nat.reduceAdd, Nat.reduceEqDiff, Nat.reduceLT, reduceIte, reduceCtorEq, Nat.reduceBEq, Int.reduceLT, Int.reduceToNat, Int.reducePow, Nat.reduceLeDiff, Int.reduceLE, Nat.reduceMul, Nat.reduceSub]
              simp only [Done, resAV, resL, resOne, look_nil, look_cons, Nat.reduceEqDiff, if_true, if_false, reduceIte, ite_true, ite_false, Nat.zero_ne_one, Nat.one_ne_zero, reduceCtorEq, true_or, or_true, true_and, Option.some.injEq, AV.lit.injEq, Value.int.injEq, Value.bool.injEq]
          · rw [if_neg (by omega)] at h2
            have d4 : decide (((d + g * w : Nat) : Int) > 11143348224) = false := by simp; omega
            by_cases hlt : g < thr k b
            · rw [if_pos hlt] at h2
              have d5 : decide ((g : Int) < (thr k b : Int)) = true := by simp; omega
              have er : readR s.length (rd b 1 0 1 (s.drop p)) = .tu [.lit (.int .i64 ((d + g * w : Nat) : Int)), .lit (.int .i64 ((j + 1 : Nat) : Int))] := by
                rw [h2, readR, List.length_drop, show s.length - (s.length - (j + 1)) = j + 1 by omega]
              rcases hgt with ⟨d2, d3⟩ | d2
              all_goals
                try simp only [er, d1, d2, d3, wj, w1, w2, d4, go_sem, Nat.reduceAdd, Nat.reduceEqDiff, Nat.reduceLT, reduceIte, reduceCtorEq, Nat.reduceBEq, Int.reduceLT, Int.reduceToNat, Int.reducePow, Nat.reduceLeDiff, Int.reduceLE, Nat.reduceMul, Nat.reduceSub]
                try simp only [er, d1, d2, wj, w1, w2, d4, go_sem, Nat.reduceAdd, Nat.reduceEqDiff, Nat.reduceLT, reduceIte, reduceCtorEq, Nat.reduceBEq, Int.reduceLT, Int.reduceToNat, Int.reducePow, Nat.reduceLeDiff, Int.reduceLE, Nat.reduceMul, Nat.reduceSub]
                refine callGo_pure (refThr_pure k b (by omega) (by omega)) (by rfl) ?_
                simp only [d5, go_sem, Nat.reduceAdd, Nat.reduceEqDiff, Nat.reduceLT, reduceIte, reduceCtorEq, Nat.reduceBEq, Int.reduceLT, Int.reduceToNat, Int.reducePow, Nat.reduceLeDiff, Int.reduceLE, Nat.reduceMul, Nat.reduceSub]
                simp only [Done, resAV, resL, resOne, look_nil, look_cons, Nat.reduceEqDiff, if_true, if_false, reduceIte, ite_true, ite_false, Nat.zero_ne_one, Nat.one_ne_zero, reduceCtorEq, true_or, or_true, true_and, Option.some.injEq, AV.lit.injEq, Value.int.injEq, Value.bool.injEq]
            · rw [if_neg hlt] at h2
              have d5 : decide ((g : Int) < (thr k b : Int)) = false := by simp; omega
              have wA : IntKind.i64.wrap (36 - (thr k b : Int)) = ((36 - thr k b : Nat) : Int) := by rw [wrap_i64 _ (by omega) (by omega)]; omega
              have hq1 := Nat.le_mul_of_pos_right w (show 0 < 36 - thr k b by omega)
              by_cases hwm : wm ≤ 11143348224
              · have d6 : decide ((wm : Int) ≤ 11143348224) = true := by simp; omega
                have hb2 : wm * (36 - thr k b) ≤ 11143348224 * 35 := Nat.mul_le_mul (by omega) (by omega)
                have wB : IntKind.i64.wrap ((wm : Int) * ((36 - thr k b : Nat) : Int)) = ((wm * (36 - thr k b) : Nat) : Int) := by rw [← Int.natCast_mul]; exact wrapN _ (by omega)
                have e : wm = w := by omega
                rcases hgt with ⟨d2, d3⟩ | d2
                all_goals
                  try simp only [d1, d2, d3, wj, w1, w2, d4, go_sem, Nat.reduceAdd, Nat.reduceEqDiff, Nat.reduceLT, reduceIte, reduceCtorEq, Nat.reduceBEq, Int.reduceLT, Int.reduceToNat, Int.reducePow, Nat.reduceLeDiff, Int.reduceLE, Nat.reduceMul, Nat.reduceSub]
                  try simp only [d1, d2, wj, w1, w2, d4, go_sem, Nat.reduceAdd, Nat.reduceEqDiff, Nat.reduceLT, reduceIte, reduceCtorEq, Nat.reduceBEq, Int.reduceLT, Int.reduceToNat, Int.reducePow, Nat.reduceLeDiff, Int.reduceLE, Nat.reduceMul, Nat.reduceSub]
                  refine callGo_pure (refThr_pure k b (by omega) (by omega)) (by rfl) ?_
                  simp only [d5, d6, wA, wB, wk, go_sem, Nat.reduceAdd, Nat.reduceEqDiff, Nat.reduceLT, reduceIte, reduceCtorEq, Nat.reduceBEq, Int.reduceLT, Int.reduceToNat, Int.reducePow, Nat.reduceLeDiff, Int.reduceLE, Nat.reduceMul, Nat.reduceSub]
                  refine ⟨(j + 1, d + g * w, wm * (36 - thr k b), k + 1, w * (36 - thr k b)), weak_forget ?_ (List.Sublist.refl _) (List.Sublist.refl _), ⟨hj, h2, by simp only; omega, by simp only; omega, ?_⟩, by simp only; omega⟩
                  · simp only [go_sem, Nat.reduceAdd, Nat.reduceEqDiff, Nat.reduceLT, reduceIte, reduceCtorEq, Nat.reduceBEq, Int.reduceLT, Int.reduceToNat, Int.reducePow, Nat.reduceLeDiff, Int.reduceLE, Nat.reduceMul, Nat.reduceSub, slotsBy, boxesBy, tipsBy, rawAt, nm, AV.ren, AV.renL, AV.under, AV.underL, List.all_nil, List.all_cons, bne_self_eq_false, List.getD_cons_zero, List.getD_cons_succ, List.length_nil, List.length_cons, and_true, true_and, slotsSub]
                  · simp only
                    rw [e] at hb2 ⊢
                    omega
              · have d6 : decide ((wm : Int) ≤ 11143348224) = false := by simp; omega
                rcases hgt with ⟨d2, d3⟩ | d2
                all_goals
                  try simp only [d1, d2, d3, wj, w1, w2, d4, go_sem, Nat.reduceAdd, Nat.reduceEqDiff, Nat.reduceLT, reduceIte, reduceCtorEq, Nat.reduceBEq, Int.reduceLT, Int.reduceToNat, Int.reducePow, Nat.reduceLeDiff, Int.reduceLE, Nat.reduceMul, Nat.reduceSub]
                  try simp only [d1, d2, wj, w1, w2, d4, go_sem, Nat.reduceAdd, Nat.reduceEqDiff, Nat.reduceLT, reduceIte, reduceCtorEq, Nat.reduceBEq, Int.reduceLT, Int.reduceToNat, Int.reducePow, Nat.reduceLeDiff, Int.reduceLE, Nat.reduceMul, Nat.reduceSub]
                  refine callGo_pure (refThr_pure k b (by omega) (by omega)) (by rfl) ?_
                  simp only [d5, d6, wk, go_sem, Nat.reduceAdd, Nat.reduceEqDiff, Nat.reduceLT, reduceIte, reduceCtorEq, Nat.reduceBEq, Int.reduceLT, Int.reduceToNat, Int.reducePow, Nat.reduceLeDiff, Int.reduceLE, Nat.reduceMul, Nat.reduceSub]
                  refine ⟨(j + 1, d + g * w, wm, k + 1, w * (36 - thr k b)), weak_forget ?_ (List.Sublist.refl _) (List.Sublist.refl _), ⟨hj, h2, by simp only; omega, by simp only; omega, .inr ?_⟩, by simp only; omega⟩
                  · simp only [go_sem, Nat.reduceAdd, Nat.reduceEqDiff, Nat.reduceLT, reduceIte, reduceCtorEq, Nat.reduceBEq, Int.reduceLT, Int.reduceToNat, Int.reducePow, Nat.reduceLeDiff, Int.reduceLE, Nat.reduceMul, Nat.reduceSub, slotsBy, boxesBy, tipsBy, rawAt, nm, AV.ren, AV.renL, AV.under, AV.underL, List.all_nil, List.all_cons, bne_self_eq_false, List.getD_cons_zero, List.getD_cons_succ, List.length_nil, List.length_cons, and_true, true_and, slotsSub]
                  · simp only
                    omega
    · subst hj
      have er : readR s.length (rd b 1 0 1 (s.drop p)) = .tu [.lit (.int .i64 0), .lit (.int .i64 (-1))] := by rw [h2, List.drop_length]; rfl
      simp only [dec_irr, er, go_sem, Nat.reduceAdd, Nat.reduceEqDiff, Nat.reduceLT, reduceIte, reduceCtorEq, Nat.reduceBEq, Int.reduceLT, Int.reduceToNat, Int.reducePow, Nat.reduceLeDiff, Int.reduceLE, Nat.reduceMul, Nat.reduceSub]
      simp only [Done, resAV, resL, resOne, look_nil, look_cons, Nat.reduceEqDiff, if_true, if_false, reduceIte, ite_true, ite_false, Nat.zero_ne_one, Nat.one_ne_zero, reduceCtorEq, true_or, or_true, true_and, Option.some.injEq, AV.lit.injEq, Value.int.injEq, Value.bool.injEq]
end Go.Proofs.Ytmhpjoadfgplgaa

/-! ## PvC -/

namespace Go.Proofs.Ytmhpjoadfgplgaa
open Go Go.Ab
def a18_5 : ACode :=
  (.seq (.reg [⟨(.some 8), (.mv (.k (.int .i64 128))), .none⟩, ⟨(.some 9), (.mv (.k (.int .i64 0))), .none⟩, ⟨(.some 10), (.mv (.k (.int .i64 72))), .none⟩]) (.seq (.seq (.reg [⟨(.some 11), (.mv (.k
  (.int .i64 0))), .none⟩]) (.block 2 (.loop (.seq (.seq (.reg [⟨(.some 41), (.mv (.t 11)), .none⟩, ⟨(.some 42), (.mv (.t 5)), .none⟩, ⟨(.some 43), (.lenS (.t 42)), .none⟩, ⟨(.some 44), (.bin .lss (.t
  41) (.t 43)), .none⟩]) (.cond (.t 44) .skip (.exit 2))) (.block 3 (.seq (.reg [⟨(.some 46), (.mv (.t 5)), .none⟩, ⟨(.some 47), (.mv (.t 11)), .none⟩, ⟨(.some 48), (.mv (.t 10)), .none⟩, ⟨(.some 49),
  (.call (.f 51) [(.t 46), (.t 47), (.t 48)]), .none⟩, ⟨(.some 45), (.mv (.t 49)), .none⟩, ⟨(.some 50), (.ext (.t 45) 0), .none⟩, ⟨(.some 51), (.ext (.t 45) 1), .none⟩, ⟨(.some 12), (.mv (.t 50)),
  .none⟩, ⟨(.some 13), (.mv (.t 51)), .none⟩]) (.seq (.seq (.reg [⟨(.some 52), (.mv (.t 13)), .none⟩, ⟨(.some 53), (.bin .lss (.t 52) (.k (.int .i64 0))), .none⟩]) (.cond (.t 53) (.seq (.reg [⟨(.some
  2), (.mv (.k (.slice .none 0 0))), .none⟩, ⟨(.some 3), (.mv (.k (.int .i64 40))), .none⟩]) .ret) .skip)) (.seq (.reg [⟨(.some 54), (.mv (.t 13)), .none⟩, ⟨(.some 11), (.mv (.t 54)), .none⟩]) (.seq
  (.reg [⟨(.some 55), (.mv (.t 6)), .none⟩, ⟨(.some 56), (.len (.t 55)), .none⟩, ⟨(.some 57), (.bin .add (.t 56) (.k (.int .i64 1))), .none⟩, ⟨(.some 14), (.mv (.t 57)), .none⟩]) (.seq (.reg [⟨(.some
  58), (.mv (.t 12)), .none⟩, ⟨(.some 59), (.mv (.t 14)), .none⟩, ⟨(.some 60), (.mv (.t 9)), .none⟩, ⟨(.some 61), (.bin .eql (.t 60) (.k (.int .i64 0))), .none⟩, ⟨(.some 62), (.mv (.t 61)), .none⟩,
  ⟨(.some 63), (.mv (.t 8)), (.some (62, true))⟩, ⟨(.some 64), (.bin .eql (.t 63) (.k (.int .i64 128))), (.some (62, true))⟩, ⟨(.some 65), (.pick (.t 62) (.t 64) (.k (.bool false))), .none⟩, ⟨(.some
  66), (.mv (.t 65)), .none⟩, ⟨(.some 67), (.mv (.t 14)), (.some (66, true))⟩, ⟨(.some 68), (.mv (.t 4)), (.some (66, true))⟩, ⟨(.some 69), (.lenS (.t 68)), (.some (66, true))⟩, ⟨(.some 70), (.bin .add
  (.t 69) (.k (.int .i64 1))), (.some (66, true))⟩, ⟨(.some 71), (.bin .eql (.t 67) (.t 70)), (.some (66, true))⟩, ⟨(.some 72), (.pick (.t 66) (.t 71) (.k (.bool false))), .none⟩, ⟨(.some 73), (.call
  (.f 47) [(.t 58), (.t 59), (.t 72)]), .none⟩, ⟨(.some 10), (.mv (.t 73)), .none⟩]) (.seq (.reg [⟨(.some 74), (.mv (.t 9)), .none⟩, ⟨(.some 75), (.mv (.t 12)), .none⟩, ⟨(.some 76), (.bin .add (.t 74)
  (.t 75)), .none⟩, ⟨(.some 9), (.mv (.t 76)), .none⟩]) (.seq (.reg [⟨(.some 77), (.mv (.t 8)), .none⟩, ⟨(.some 78), (.mv (.t 9)), .none⟩, ⟨(.some 79), (.mv (.t 14)), .none⟩, ⟨(.some 80), (.bin .quo (.t
  78) (.t 79)), .none⟩, ⟨(.some 81), (.bin .add (.t 77) (.t 80)), .none⟩, ⟨(.some 8), (.mv (.t 81)), .none⟩]) (.seq (.reg [⟨(.some 82), (.mv (.t 9)), .none⟩, ⟨(.some 83), (.mv (.t 14)), .none⟩, ⟨(.some
  84), (.bin .rem (.t 82) (.t 83)), .none⟩, ⟨(.some 9), (.mv (.t 84)), .none⟩]) (.seq (.seq (.reg [⟨(.some 85), (.mv (.t 8)), .none⟩, ⟨(.some 86), (.bin .gtr (.t 85) (.k (.int .i64 1114111))), .none⟩,
  ⟨(.some 87), (.mv (.t 86)), .none⟩, ⟨(.some 88), (.mv (.t 8)), (.some (87, false))⟩, ⟨(.some 89), (.cvI .i32 (.t 88)), (.some (87, false))⟩, ⟨(.some 90), (.call (.f 43) [(.t 89)]), (.some (87,
  false))⟩, ⟨(.some 91), (.not (.t 90)), (.some (87, false))⟩, ⟨(.some 92), (.pick (.t 87) (.k (.bool true)) (.t 91)), .none⟩]) (.cond (.t 92) (.seq (.reg [⟨(.some 2), (.mv (.k (.slice .none 0 0))),
  .none⟩, ⟨(.some 3), (.mv (.k (.int .i64 40))), .none⟩]) .ret) .skip)) (.seq (.reg [⟨(.some 15), (.mv (.k (.slice .none 0 0))), .none⟩]) (.seq (.reg [⟨(.some 93), (.mv (.t 15)), .none⟩, ⟨(.some 94),
  (.mv (.t 6)), .none⟩, ⟨(.some 95), (.mv (.t 9)), .none⟩, ⟨(.some 96), (.slc 21 (.t 94) .none (.some (.t 95))), .none⟩, ⟨(.some 97), (.app 21 4 (.t 93) (.t 96)), .none⟩, ⟨(.some 15), (.mv (.t 97)),
  .none⟩]) (.seq (.reg [⟨(.some 98), (.mv (.t 15)), .none⟩, ⟨(.some 99), (.mv (.t 8)), .none⟩, ⟨(.some 100), (.cvI .i32 (.t 99)), .none⟩, ⟨(.some 101), (.bs 21 1 [(.t 100)]), .none⟩, ⟨(.some 102), (.app
  21 4 (.t 98) (.t 101)), .none⟩, ⟨(.some 15), (.mv (.t 102)), .none⟩]) (.seq (.reg [⟨(.some 103), (.mv (.t 15)), .none⟩, ⟨(.some 104), (.mv (.t 6)), .none⟩, ⟨(.some 105), (.mv (.t 9)), .none⟩, ⟨(.some
  106), (.slc 21 (.t 104) (.some (.t 105)) .none), .none⟩, ⟨(.some 107), (.app 21 4 (.t 103) (.t 106)), .none⟩, ⟨(.some 6), (.mv (.t 107)), .none⟩]) (.reg [⟨(.some 108), (.mv (.t 9)), .none⟩, ⟨(.some
  109), (.bin .add (.t 108) (.k (.int .i64 1))), .none⟩, ⟨(.some 9), (.mv (.t 109)), .none⟩]))))))))))))))))))) (.seq (.reg [⟨(.some 110), (.mv (.t 6)), .none⟩, ⟨(.some 2), (.mv (.t 110)), .none⟩,
  ⟨(.some 3), (.mv (.k (.int .i64 0))), .none⟩]) .ret)))
def a18 : ACode :=
  (.seq (.reg [⟨(.some 2), (.mv (.k (.slice .none 0 0))), .none⟩, ⟨(.some 3), (.mv (.k (.int .i64 0))), .none⟩]) (.seq (.seq (.reg [⟨(.some 16), (.mv (.t 0)), .none⟩, ⟨(.some 17), (.lenS (.t 16)),
  .none⟩, ⟨(.some 18), (.bin .gtr (.t 17) (.k (.int .i64 10000))), .none⟩]) (.cond (.t 18) (.seq (.reg [⟨(.some 2), (.mv (.k (.slice .none 0 0))), .none⟩, ⟨(.some 3), (.mv (.k (.int .i64 41))), .none⟩])
  .ret) .skip)) (.seq (.reg [⟨(.some 20), (.mv (.t 0)), .none⟩, ⟨(.some 21), (.call (.f 50) [(.t 20)]), .none⟩, ⟨(.some 19), (.mv (.t 21)), .none⟩, ⟨(.some 22), (.ext (.t 19) 0), .none⟩, ⟨(.some 23),
  (.ext (.t 19) 1), .none⟩, ⟨(.some 4), (.mv (.t 22)), .none⟩, ⟨(.some 5), (.mv (.t 23)), .none⟩]) (.seq (.reg [⟨(.some 6), (.mv (.k (.slice .none 0 0))), .none⟩]) (.seq (.seq (.reg [⟨(.some 7), (.mv
  (.k (.int .i64 0))), .none⟩]) (.block 0 (.loop (.seq (.seq (.reg [⟨(.some 24), (.mv (.t 7)), .none⟩, ⟨(.some 25), (.mv (.t 4)), .none⟩, ⟨(.some 26), (.lenS (.t 25)), .none⟩, ⟨(.some 27), (.bin .lss
  (.t 24) (.t 26)), .none⟩]) (.cond (.t 27) .skip (.exit 0))) (.seq (.block 1 (.seq (.seq (.reg [⟨(.some 30), (.mv (.t 4)), .none⟩, ⟨(.some 31), (.mv (.t 7)), .none⟩, ⟨(.some 32), (.ixS (.t 30) (.t
  31)), .none⟩, ⟨(.some 33), (.bin .gtr (.t 32) (.k (.int .u8 127))), .none⟩]) (.cond (.t 33) (.seq (.reg [⟨(.some 2), (.mv (.k (.slice .none 0 0))), .none⟩, ⟨(.some 3), (.mv (.k (.int .i64 40))),
  .none⟩]) .ret) .skip)) (.reg [⟨(.some 34), (.mv (.t 6)), .none⟩, ⟨(.some 35), (.mv (.t 4)), .none⟩, ⟨(.some 36), (.mv (.t 7)), .none⟩, ⟨(.some 37), (.ixS (.t 35) (.t 36)), .none⟩, ⟨(.some 38), (.cvI
  .i32 (.t 37)), .none⟩, ⟨(.some 39), (.bs 21 1 [(.t 38)]), .none⟩, ⟨(.some 40), (.app 21 4 (.t 34) (.t 39)), .none⟩, ⟨(.some 6), (.mv (.t 40)), .none⟩]))) (.reg [⟨(.some 28), (.mv (.t 7)), .none⟩,
  ⟨(.some 29), (.bin .add (.t 28) (.k (.int .i64 1))), .none⟩, ⟨(.some 7), (.mv (.t 29)), .none⟩])))))) a18_5)))))
theorem c18 : Try.f18.body.bind (cCode Try.prog 111) = some a18 := by kernel_rfl
theorem r18 : Try.f18.results.toList = [(.tmp 2), (.tmp 3)] := by kernel_rfl
theorem n18 : Try.f18.ntmps = 111 := by kernel_rfl
theorem e18 : Enters Try.prog 18 := enters_of Try.func18 (by kernel_rfl) (by kernel_rfl)

/-- A decoder's end, of a row that is appended to. -/
theorem fin_sl {t2 t3 : Nat} {c : List Nat} {tt : Option Nat} {x : Int} {e : Exit} {sl : List (Nat × Option AV)} {bx : List (Nat × List AV)} {tp : List (Nat × TypeId)} {nx : Nat} (he : e = .normal ∨ e = .ret) (hne : t2 ≠ t3)
    (h2 : Ab.look sl t2 = some (rS (ofN c) tt)) (h3 : Ab.look sl t3 = some (.lit (.int .i64 x))) :
    ∃ s1, Weak Try.prog 0 ⟨sl, bx, tp, nx⟩ s1 ∧ Done Try.prog [.tmp t2, .tmp t3] (decA (c, x)) e s1 := by
  refine ⟨_, weak_untip t2 h2, he, ?_⟩
  simp only [resAV, resL, resOne, Ab.look, if_true, if_neg hne, h3]
  rfl

theorem ofN_take (l : List Nat) (k : Nat) : ofN (l.take k) = (ofN l).take k := by simp [ofN, List.map_take]
theorem ofN_drop (l : List Nat) (k : Nat) : ofN (l.drop k) = (ofN l).drop k := by simp [ofN, List.map_drop]

set_option maxRecDepth 10000 in
set_option maxHeartbeats 1000000 in
theorem refdec_tail {s out0 : List Nat} {t0 : Nat} {sl : List (Nat × Option AV)} {nx : Nat} (hs : ∀ n ∈ s, n ≤ 255) (hl : s.length + out0.length ≤ 10000) (ht0 : t0 < nx)
    (h4 : Ab.look sl 4 = some (.lit (.string (txt out0)))) (h5 : Ab.look sl 5 = some (.lit (.string (txt s)))) (h6 : Ab.look sl 6 = some (rS (ofN out0) (some t0))) :
    awp Try.prog 0 a18_5 (fun e s' => ∃ s1, Weak Try.prog 0 s' s1 ∧ Done Try.prog [.tmp 2, .tmp 3] (decA (decO (dcd s out0 128 0 72 true))) e s1) ⟨sl, [], [(t0, 21)], nx⟩ := by
  simp only [a18_5, go_sem, Nat.reduceAdd, Nat.reduceEqDiff, Nat.reduceLT, reduceIte, reduceCtorEq, Nat.reduceBEq, Int.reduceLT, Int.reduceToNat, Int.reducePow, Nat.reduceLeDiff, Int.reduceLE, Nat.reduceMul, Nat.reduceSub]
  refine loop_by (α := List Nat × (Nat × Nat × Nat × Nat × Bool) × (Nat × Nat)) (fun x => ⟨[(4, some (.lit (.string (txt out0)))), (5, some (.lit (.string (txt s)))), (6, some (rS (ofN x.1) (some x.2.2.1))), (8, some (.lit (.int .i64 ((x.2.1.1 : Nat) : Int)))), (9, some (.lit (.int .i64 ((x.2.1.2.1 : Nat) : Int)))), (10, some (.lit (.int .i64 ((x.2.1.2.2.1 : Nat) : Int)))), (11, some (.lit (.int .i64 ((x.2.1.2.2.2.1 : Nat) : Int))))], [], [(x.2.2.1, 21)], x.2.2.2⟩)
    (fun x => x.2.1.2.2.2.1 ≤ s.length ∧ x.1.length + (s.length - x.2.1.2.2.2.1) ≤ 10000 ∧ x.2.2.1 < x.2.2.2 ∧ dcd s out0 128 0 72 true = dcd (s.drop x.2.1.2.2.2.1) x.1 x.2.1.1 x.2.1.2.1 x.2.1.2.2.1 x.2.1.2.2.2.2 ∧ x.2.1.2.1 ≤ x.1.length ∧ x.2.1.1 ≤ 1114111 ∧ x.2.1.2.2.1 ≤ 1000 ∧ ((x.2.1.2.2.2.2 = true ∧ x.2.1.2.1 = 0 ∧ x.2.1.1 = 128 ∧ x.1.length = out0.length) ∨ (x.2.1.2.2.2.2 = false ∧ out0.length < x.1.length))) (fun x => s.length - x.2.1.2.2.2.1) (fun x y h => by
      have := congrArg (cnt 11) h
      simp [cnt, Ab.look] at this
      rw [this]) (out0, (128, 0, 72, 0, true), (t0, nx)) (weak_forget ?_ (List.Sublist.refl _) (List.Sublist.refl _)) ⟨Nat.zero_le _, by simp only; omega, ht0, by simp only [List.drop_zero], Nat.zero_le _, by simp, by simp, .inl ⟨rfl, rfl, rfl, rfl⟩⟩ ?_
  · simp only [h4, h5, h6, go_sem, Nat.reduceAdd, Nat.reduceEqDiff, Nat.reduceLT, reduceIte, reduceCtorEq, Nat.reduceBEq, Int.reduceLT, Int.reduceToNat, Int.reducePow, Nat.reduceLeDiff, Int.reduceLE, Nat.reduceMul, Nat.reduceSub, slotsBy, boxesBy, tipsBy, rawAt, nm, AV.ren, AV.renL, AV.under, AV.underL, List.all_nil, List.all_cons, bne_self_eq_false, List.getD_cons_zero, List.getD_cons_succ, List.length_nil, List.length_cons, and_true, true_and, slotsSub]
    exact ⟨rfl, rfl, rfl, rfl⟩
  · rintro ⟨out, ⟨n, i, b, p, f⟩, ⟨t, nx⟩⟩ ⟨g1, g2, g3, g4, g5, g6, g7, g8⟩
    simp only at g1 g2 g3 g4 g5 g6 g7 g8
    rw [g4]
    clear g4
    simp only [txt_size, go_sem, Nat.reduceAdd, Nat.reduceEqDiff, Nat.reduceLT, reduceIte, reduceCtorEq, Nat.reduceBEq, Int.reduceLT, Int.reduceToNat, Int.reducePow, Nat.reduceLeDiff, Int.reduceLE, Nat.reduceMul, Nat.reduceSub]
    rcases Nat.lt_or_eq_of_le g1 with hp | hp
    · have hne : s.drop p ≠ [] := by intro e; have := congrArg List.length e; rw [List.length_drop, List.length_nil] at this; omega
      rw [dcd_back0 hne]
      simp only [dec_lt hp, go_sem, Nat.reduceAdd, Nat.reduceEqDiff, Nat.reduceLT, reduceIte, reduceCtorEq, Nat.reduceBEq, Int.reduceLT, Int.reduceToNat, Int.reducePow, Nat.reduceLeDiff, Int.reduceLE, Nat.reduceMul, Nat.reduceSub]
      refine callGo_pure (refRead_pure s p b hs (by omega) g7 g1) (by cases rd b 1 0 1 (s.drop p) <;> rfl) ?_
      cases hrd : rd b 1 0 1 (s.drop p) with
      | none =>
        have d1 : decide ((-1 : Int) < 0) = true := by decide
        simp only [readR, d1, go_sem, Nat.reduceAdd, Nat.reduceEqDiff, Nat.reduceLT, reduceIte, reduceCtorEq, Nat.reduceBEq, Int.reduceLT, Int.reduceToNat, Int.reducePow, Nat.reduceLeDiff, Int.reduceLE, Nat.reduceMul, Nat.reduceSub]
        exact fin_out (c := []) (.inr rfl) (by decide) (by simp only [Ab.look, Nat.reduceEqDiff, if_true, if_false]) (.inl ⟨rfl, rfl⟩) (by simp only [Ab.look, Nat.reduceEqDiff, if_true, if_false])
      | some x =>
        obtain ⟨d, r⟩ := x
        obtain ⟨hd, hr⟩ := rd_le b _ 1 0 1 hrd
        have hrl := rd_lt b _ 1 0 1 hrd
        have hrd2 := rd_drop b _ 1 0 1 hrd
        rw [List.length_drop] at hrl hrd2
        rw [List.drop_drop, show p + (s.length - p - r.length) = s.length - r.length by omega] at hrd2
        generalize hp' : s.length - r.length = p' at *
        have d1 : decide ((p' : Int) < 0) = false := by simp
        have w1 : IntKind.i64.wrap ((out.length : Int) + 1) = ((out.length + 1 : Nat) : Int) := by rw [wrap_i64 _ (by omega) (by omega)]; omega
        have w1' : IntKind.i64.wrap ((out0.length : Int) + 1) = ((out0.length + 1 : Nat) : Int) := by rw [wrap_i64 _ (by omega) (by omega)]; omega
        have w2 : IntKind.i64.wrap ((i : Int) + (d : Int)) = ((i + d : Nat) : Int) := by rw [← Int.natCast_add]; exact wrapN _ (by omega)
        have hq := Nat.div_le_self (i + d) (out.length + 1)
        have hm := Nat.mod_lt (i + d) (show 0 < out.length + 1 by omega)
        have w3 : IntKind.i64.wrap (((i + d : Nat) : Int).tdiv ((out.length + 1 : Nat) : Int)) = (((i + d) / (out.length + 1) : Nat) : Int) := by rw [tdivN]; exact wrapN _ (by omega)
        have w4 : ((i + d : Nat) : Int).tmod ((out.length + 1 : Nat) : Int) = (((i + d) % (out.length + 1) : Nat) : Int) := tmodN _ _
        have w5 : IntKind.i64.wrap ((n : Int) + (((i + d) / (out.length + 1) : Nat) : Int)) = ((n + (i + d) / (out.length + 1) : Nat) : Int) := by rw [← Int.natCast_add]; exact wrapN _ (by omega)
        have n0 : (((out.length + 1 : Nat) : Int) = 0) = False := neI (by omega)
        have hadp := adp_le2 (d := d) (h := out.length + 1) f (by omega)
        have hil := ins_length out ((i + d) % (out.length + 1)) (n + (i + d) / (out.length + 1))
        have hfl : (((i : Int) == 0) = false ∧ f = false) ∨ (((i : Int) == 0) = true ∧ ((n : Int) == 128) = false ∧ f = false) ∨ (((i : Int) == 0) = true ∧ ((n : Int) == 128) = true ∧ (((out.length + 1 : Nat) : Int) == ((out0.length + 1 : Nat) : Int)) = f) := by
          rcases g8 with ⟨rfl, rfl, rfl, k1⟩ | ⟨rfl, k1⟩
          · right; right; exact ⟨rfl, rfl, by rw [k1]; simp⟩
          · by_cases h1 : i = 0
            · by_cases h2 : n = 128
              · right; right; subst h1; subst h2; exact ⟨rfl, rfl, by simp; omega⟩
              · right; left; subst h1; exact ⟨rfl, by simp; omega, rfl⟩
            · left; exact ⟨by simp; omega, rfl⟩
        have hbs : ∀ x ∈ r, x ≤ 255 := fun x hx => hs x (List.mem_of_mem_drop (hr x hx))
        simp only [readR, hp', d1, runes_length, ofN_length, w1, txt_size, go_sem, Nat.reduceAdd, Nat.reduceEqDiff, Nat.reduceLT, reduceIte, reduceCtorEq, Nat.reduceBEq, Int.reduceLT, Int.reduceToNat, Int.reducePow, Nat.reduceLeDiff, Int.reduceLE, Nat.reduceMul, Nat.reduceSub]
        obtain ⟨Q, hQ⟩ : ∃ Q, Q = n + (i + d) / (out.length + 1) := ⟨_, rfl⟩
        obtain ⟨M, hM⟩ : ∃ M, M = (i + d) % (out.length + 1) := ⟨_, rfl⟩
        rw [← hM] at hm w4
        rw [← hQ] at w5
        rw [← hM, ← hQ] at hil
        rw [← hM, ← hQ]
        have hw : IntKind.i64.wrap ((M : Int) + 1) = ((M + 1 : Nat) : Int) := by rw [wrap_i64 _ (by omega) (by omega)]; omega
        have eo : ((runes (ofN out)).take M ++ [[Value.int .i32 (Q : Int)]] ++ (runes (ofN out)).drop M) = runes (ofN (out.take M ++ Q :: out.drop M)) := by
          rw [ofN_ins, runes_take, runes_drop, List.append_assoc, runes_append]; rfl
        have hMl : M ≤ out.length := by omega
        have hT : ((runes (ofN out)).take M).length = M := by rw [List.length_take, runes_length, ofN_length]; omega
        have hD : ((runes (ofN out)).drop M).length = out.length - M := by rw [List.length_drop, runes_length, ofN_length]
        have hTl : (runes (ofN out)).take out.length = runes (ofN out) := List.take_of_length_le (by rw [runes_length, ofN_length]; exact Nat.le_refl _)
        have ne1 : (nx + 1 = nx) = False := eq_false (by omega)
        have ne2 : (nx + 1 + 1 = nx) = False := eq_false (by omega)
        have ne3 : (nx + 1 + 1 = nx + 1) = False := eq_false (by omega)
        have ne4 : (nx + 2 = nx) = False := eq_false (by omega)
        have ne5 : (nx + 2 = nx + 1) = False := eq_false (by omega)
        rcases hfl with ⟨e1, hf⟩ | ⟨e1, e2, hf⟩ | ⟨e1, e2, hf⟩
        · subst hf
          simp only [e1, go_sem, Nat.reduceAdd, Nat.reduceEqDiff, Nat.reduceLT, reduceIte, reduceCtorEq, Nat.reduceBEq, Int.reduceLT, Int.reduceToNat, Int.reducePow, Nat.reduceLeDiff, Int.reduceLE, Nat.reduceMul, Nat.reduceSub]
          refine callGo_pure (refNext_pure d (out.length + 1) false (by omega) (by omega) (by omega)) (by rfl) ?_
          simp only [w2, w3, w4, w5, n0, if_false, go_sem, Nat.reduceAdd, Nat.reduceEqDiff, Nat.reduceLT, reduceIte, reduceCtorEq, Nat.reduceBEq, Int.reduceLT, Int.reduceToNat, Int.reducePow, Nat.reduceLeDiff, Int.reduceLE, Nat.reduceMul, Nat.reduceSub]
          by_cases hg : 1114111 < Q
          · have d1 : decide ((Q : Int) > 1114111) = true := by simp; omega
            have d2 : isSc (Q : Int) = false := by simp [isSc]; omega
            simp only [d1, d2, if_true, go_sem, Nat.reduceAdd, Nat.reduceEqDiff, Nat.reduceLT, reduceIte, reduceCtorEq, Nat.reduceBEq, Int.reduceLT, Int.reduceToNat, Int.reducePow, Nat.reduceLeDiff, Int.reduceLE, Nat.reduceMul, Nat.reduceSub]
            exact fin_out (c := []) (.inr rfl) (by decide) (by simp only [Ab.look, Nat.reduceEqDiff, if_true, if_false]) (.inl ⟨rfl, rfl⟩) (by simp only [Ab.look, Nat.reduceEqDiff, if_true, if_false])
          · have d1 : decide ((Q : Int) > 1114111) = false := by simp; omega
            have w6 : IntKind.i32.wrap (Q : Int) = (Q : Int) := wrap_i32 _ (by omega) (by omega)
            simp only [d1, w6, go_sem, Nat.reduceAdd, Nat.reduceEqDiff, Nat.reduceLT, reduceIte, reduceCtorEq, Nat.reduceBEq, Int.reduceLT, Int.reduceToNat, Int.reducePow, Nat.reduceLeDiff, Int.reduceLE, Nat.reduceMul, Nat.reduceSub]
            refine callGo_pure (Scalar_pure (Q : Int)) (by rfl) ?_
            simp only [go_sem, Nat.reduceAdd, Nat.reduceEqDiff, Nat.reduceLT, reduceIte, reduceCtorEq, Nat.reduceBEq, Int.reduceLT, Int.reduceToNat, Int.reducePow, Nat.reduceLeDiff, Int.reduceLE, Nat.reduceMul, Nat.reduceSub]
            cases hsc : isSc (Q : Int) with
            | false =>
              simp only [Bool.not_false, if_true, go_sem, Nat.reduceAdd, Nat.reduceEqDiff, Nat.reduceLT, reduceIte, reduceCtorEq, Nat.reduceBEq, Int.reduceLT, Int.reduceToNat, Int.reducePow, Nat.reduceLeDiff, Int.reduceLE, Nat.reduceMul, Nat.reduceSub]
              exact fin_out (c := []) (.inr rfl) (by decide) (by simp only [Ab.look, Nat.reduceEqDiff, if_true, if_false]) (.inl ⟨rfl, rfl⟩) (by simp only [Ab.look, Nat.reduceEqDiff, if_true, if_false])
            | true =>
              have z1 : (0 ≤ M) = True := by simp
              simp only [Bool.not_true, w6, Bool.true_eq_false, if_false, runes_length, ofN_length, hMl, z1, if_true, go_sem, Nat.reduceAdd, Nat.reduceEqDiff, Nat.reduceLT, reduceIte, reduceCtorEq, Nat.reduceBEq, Int.reduceLT, Int.reduceToNat, Int.reducePow, Nat.reduceLeDiff, Int.reduceLE, Nat.reduceMul, Nat.reduceSub]
              refine ⟨⟨by omega, by omega⟩, ?_⟩
              simp only [ne1, ne2, hT, if_false, if_true, List.length_cons, List.length_nil, Nat.zero_add, go_sem, Nat.reduceAdd, Nat.reduceEqDiff, Nat.reduceLT, reduceIte, reduceCtorEq, Nat.reduceBEq, Int.reduceLT, Int.reduceToNat, Int.reducePow, Nat.reduceLeDiff, Int.reduceLE, Nat.reduceMul, Nat.reduceSub]
              refine ⟨⟨by omega, by omega⟩, ?_⟩
              simp only [ne1, ne2, ne3, ne4, ne5, hT, hD, hTl, hw, hMl, ofN_length, runes_length, Nat.le_refl, if_false, if_true, List.take_length, List.length_append, List.length_cons, List.length_nil, Nat.zero_add, go_sem, Nat.reduceAdd, Nat.reduceEqDiff, Nat.reduceLT, reduceIte, reduceCtorEq, Nat.reduceBEq, Int.reduceLT, Int.reduceToNat, Int.reducePow, Nat.reduceLeDiff, Int.reduceLE, Nat.reduceMul, Nat.reduceSub]
              refine ⟨⟨by omega, by omega⟩, ?_⟩
              refine ⟨(out.take M ++ Q :: out.drop M, (Q, M + 1, adp d (out.length + 1) false, p', false), (nx + 1 + 1 + 1, nx + 1 + 1 + 1 + 1)), weak_forget ?_ (List.Sublist.refl _) (.cons_cons _ (List.nil_sublist _)), ⟨by simp only; omega, by simp only [hil]; omega, by simp only; omega, by simp only [hrd2], by simp only [hil]; omega, by simp only; omega, hadp, .inr ⟨rfl, by simp only [hil]; omega⟩⟩, by simp only; omega⟩
              simp only [eo, go_sem, Nat.reduceAdd, Nat.reduceEqDiff, Nat.reduceLT, reduceIte, reduceCtorEq, Nat.reduceBEq, Int.reduceLT, Int.reduceToNat, Int.reducePow, Nat.reduceLeDiff, Int.reduceLE, Nat.reduceMul, Nat.reduceSub, slotsBy, boxesBy, tipsBy, rawAt, nm, AV.ren, AV.renL, AV.under, AV.underL, List.all_nil, List.all_cons, bne_self_eq_false, List.getD_cons_zero, List.getD_cons_succ, List.length_nil, List.length_cons, and_true, true_and, slotsSub]
        · subst hf
          simp only [e1, e2, go_sem, Nat.reduceAdd, Nat.reduceEqDiff, Nat.reduceLT, reduceIte, reduceCtorEq, Nat.reduceBEq, Int.reduceLT, Int.reduceToNat, Int.reducePow, Nat.reduceLeDiff, Int.reduceLE, Nat.reduceMul, Nat.reduceSub]
          refine callGo_pure (refNext_pure d (out.length + 1) false (by omega) (by omega) (by omega)) (by rfl) ?_
          simp only [w2, w3, w4, w5, n0, if_false, go_sem, Nat.reduceAdd, Nat.reduceEqDiff, Nat.reduceLT, reduceIte, reduceCtorEq, Nat.reduceBEq, Int.reduceLT, Int.reduceToNat, Int.reducePow, Nat.reduceLeDiff, Int.reduceLE, Nat.reduceMul, Nat.reduceSub]
          by_cases hg : 1114111 < Q
          · have d1 : decide ((Q : Int) > 1114111) = true := by simp; omega
            have d2 : isSc (Q : Int) = false := by simp [isSc]; omega
            simp only [d1, d2, if_true, go_sem, Nat.reduceAdd, Nat.reduceEqDiff, Nat.reduceLT, reduceIte, reduceCtorEq, Nat.reduceBEq, Int.reduceLT, Int.reduceToNat, Int.reducePow, Nat.reduceLeDiff, Int.reduceLE, Nat.reduceMul, Nat.reduceSub]
            exact fin_out (c := []) (.inr rfl) (by decide) (by simp only [Ab.look, Nat.reduceEqDiff, if_true, if_false]) (.inl ⟨rfl, rfl⟩) (by simp only [Ab.look, Nat.reduceEqDiff, if_true, if_false])
          · have d1 : decide ((Q : Int) > 1114111) = false := by simp; omega
            have w6 : IntKind.i32.wrap (Q : Int) = (Q : Int) := wrap_i32 _ (by omega) (by omega)
            simp only [d1, w6, go_sem, Nat.reduceAdd, Nat.reduceEqDiff, Nat.reduceLT, reduceIte, reduceCtorEq, Nat.reduceBEq, Int.reduceLT, Int.reduceToNat, Int.reducePow, Nat.reduceLeDiff, Int.reduceLE, Nat.reduceMul, Nat.reduceSub]
            refine callGo_pure (Scalar_pure (Q : Int)) (by rfl) ?_
            simp only [go_sem, Nat.reduceAdd, Nat.reduceEqDiff, Nat.reduceLT, reduceIte, reduceCtorEq, Nat.reduceBEq, Int.reduceLT, Int.reduceToNat, Int.reducePow, Nat.reduceLeDiff, Int.reduceLE, Nat.reduceMul, Nat.reduceSub]
            cases hsc : isSc (Q : Int) with
            | false =>
              simp only [Bool.not_false, if_true, go_sem, Nat.reduceAdd, Nat.reduceEqDiff, Nat.reduceLT, reduceIte, reduceCtorEq, Nat.reduceBEq, Int.reduceLT, Int.reduceToNat, Int.reducePow, Nat.reduceLeDiff, Int.reduceLE, Nat.reduceMul, Nat.reduceSub]
              exact fin_out (c := []) (.inr rfl) (by decide) (by simp only [Ab.look, Nat.reduceEqDiff, if_true, if_false]) (.inl ⟨rfl, rfl⟩) (by simp only [Ab.look, Nat.reduceEqDiff, if_true, if_false])
            | true =>
              have z1 : (0 ≤ M) = True := by simp
              simp only [Bool.not_true, w6, Bool.true_eq_false, if_false, runes_length, ofN_length, hMl, z1, if_true, go_sem, Nat.reduceAdd, Nat.reduceEqDiff, Nat.reduceLT, reduceIte, reduceCtorEq, Nat.reduceBEq, Int.reduceLT, Int.reduceToNat, Int.reducePow, Nat.reduceLeDiff, Int.reduceLE, Nat.reduceMul, Nat.reduceSub]
              refine ⟨⟨by omega, by omega⟩, ?_⟩
              simp only [ne1, ne2, hT, if_false, if_true, List.length_cons, List.length_nil, Nat.zero_add, go_sem, Nat.reduceAdd, Nat.reduceEqDiff, Nat.reduceLT, reduceIte, reduceCtorEq, Nat.reduceBEq, Int.reduceLT, Int.reduceToNat, Int.reducePow, Nat.reduceLeDiff, Int.reduceLE, Nat.reduceMul, Nat.reduceSub]
              refine ⟨⟨by omega, by omega⟩, ?_⟩
              simp only [ne1, ne2, ne3, ne4, ne5, hT, hD, hTl, hw, hMl, ofN_length, runes_length, Nat.le_refl, if_false, if_true, List.take_length, List.length_append, List.length_cons, List.length_nil, Nat.zero_add, go_sem, Nat.reduceAdd, Nat.reduceEqDiff, Nat.reduceLT, reduceIte, reduceCtorEq, Nat.reduceBEq, Int.reduceLT, Int.reduceToNat, Int.reducePow, Nat.reduceLeDiff, Int.reduceLE, Nat.reduceMul, Nat.reduceSub]
              refine ⟨⟨by omega, by omega⟩, ?_⟩
              refine ⟨(out.take M ++ Q :: out.drop M, (Q, M + 1, adp d (out.length + 1) false, p', false), (nx + 1 + 1 + 1, nx + 1 + 1 + 1 + 1)), weak_forget ?_ (List.Sublist.refl _) (.cons_cons _ (List.nil_sublist _)), ⟨by simp only; omega, by simp only [hil]; omega, by simp only; omega, by simp only [hrd2], by simp only [hil]; omega, by simp only; omega, hadp, .inr ⟨rfl, by simp only [hil]; omega⟩⟩, by simp only; omega⟩
              simp only [eo, go_sem, Nat.reduceAdd, Nat.reduceEqDiff, Nat.reduceLT, reduceIte, reduceCtorEq, Nat.reduceBEq, Int.reduceLT, Int.reduceToNat, Int.reducePow, Nat.reduceLeDiff, Int.reduceLE, Nat.reduceMul, Nat.reduceSub, slotsBy, boxesBy, tipsBy, rawAt, nm, AV.ren, AV.renL, AV.under, AV.underL, List.all_nil, List.all_cons, bne_self_eq_false, List.getD_cons_zero, List.getD_cons_succ, List.length_nil, List.length_cons, and_true, true_and, slotsSub]
        · simp only [e1, e2, runes_length, ofN_length, w1', txt_size, hf, go_sem, Nat.reduceAdd, Nat.reduceEqDiff, Nat.reduceLT, reduceIte, reduceCtorEq, Nat.reduceBEq, Int.reduceLT, Int.reduceToNat, Int.reducePow, Nat.reduceLeDiff, Int.reduceLE, Nat.reduceMul, Nat.reduceSub]
          refine callGo_pure (refNext_pure d (out.length + 1) f (by omega) (by omega) (by omega)) (by rfl) ?_
          simp only [w2, w3, w4, w5, n0, if_false, go_sem, Nat.reduceAdd, Nat.reduceEqDiff, Nat.reduceLT, reduceIte, reduceCtorEq, Nat.reduceBEq, Int.reduceLT, Int.reduceToNat, Int.reducePow, Nat.reduceLeDiff, Int.reduceLE, Nat.reduceMul, Nat.reduceSub]
          by_cases hg : 1114111 < Q
          · have d1 : decide ((Q : Int) > 1114111) = true := by simp; omega
            have d2 : isSc (Q : Int) = false := by simp [isSc]; omega
            simp only [d1, d2, if_true, go_sem, Nat.reduceAdd, Nat.reduceEqDiff, Nat.reduceLT, reduceIte, reduceCtorEq, Nat.reduceBEq, Int.reduceLT, Int.reduceToNat, Int.reducePow, Nat.reduceLeDiff, Int.reduceLE, Nat.reduceMul, Nat.reduceSub]
            exact fin_out (c := []) (.inr rfl) (by decide) (by simp only [Ab.look, Nat.reduceEqDiff, if_true, if_false]) (.inl ⟨rfl, rfl⟩) (by simp only [Ab.look, Nat.reduceEqDiff, if_true, if_false])
          · have d1 : decide ((Q : Int) > 1114111) = false := by simp; omega
            have w6 : IntKind.i32.wrap (Q : Int) = (Q : Int) := wrap_i32 _ (by omega) (by omega)
            simp only [d1, w6, go_sem, Nat.reduceAdd, Nat.reduceEqDiff, Nat.reduceLT, reduceIte, reduceCtorEq, Nat.reduceBEq, Int.reduceLT, Int.reduceToNat, Int.reducePow, Nat.reduceLeDiff, Int.reduceLE, Nat.reduceMul, Nat.reduceSub]
            refine callGo_pure (Scalar_pure (Q : Int)) (by rfl) ?_
            simp only [go_sem, Nat.reduceAdd, Nat.reduceEqDiff, Nat.reduceLT, reduceIte, reduceCtorEq, Nat.reduceBEq, Int.reduceLT, Int.reduceToNat, Int.reducePow, Nat.reduceLeDiff, Int.reduceLE, Nat.reduceMul, Nat.reduceSub]
            cases hsc : isSc (Q : Int) with
            | false =>
              simp only [Bool.not_false, if_true, go_sem, Nat.reduceAdd, Nat.reduceEqDiff, Nat.reduceLT, reduceIte, reduceCtorEq, Nat.reduceBEq, Int.reduceLT, Int.reduceToNat, Int.reducePow, Nat.reduceLeDiff, Int.reduceLE, Nat.reduceMul, Nat.reduceSub]
              exact fin_out (c := []) (.inr rfl) (by decide) (by simp only [Ab.look, Nat.reduceEqDiff, if_true, if_false]) (.inl ⟨rfl, rfl⟩) (by simp only [Ab.look, Nat.reduceEqDiff, if_true, if_false])
            | true =>
              have z1 : (0 ≤ M) = True := by simp
              simp only [Bool.not_true, w6, Bool.true_eq_false, if_false, runes_length, ofN_length, hMl, z1, if_true, go_sem, Nat.reduceAdd, Nat.reduceEqDiff, Nat.reduceLT, reduceIte, reduceCtorEq, Nat.reduceBEq, Int.reduceLT, Int.reduceToNat, Int.reducePow, Nat.reduceLeDiff, Int.reduceLE, Nat.reduceMul, Nat.reduceSub]
              refine ⟨⟨by omega, by omega⟩, ?_⟩
              simp only [ne1, ne2, hT, if_false, if_true, List.length_cons, List.length_nil, Nat.zero_add, go_sem, Nat.reduceAdd, Nat.reduceEqDiff, Nat.reduceLT, reduceIte, reduceCtorEq, Nat.reduceBEq, Int.reduceLT, Int.reduceToNat, Int.reducePow, Nat.reduceLeDiff, Int.reduceLE, Nat.reduceMul, Nat.reduceSub]
              refine ⟨⟨by omega, by omega⟩, ?_⟩
              simp only [ne1, ne2, ne3, ne4, ne5, hT, hD, hTl, hw, hMl, ofN_length, runes_length, Nat.le_refl, if_false, if_true, List.take_length, List.length_append, List.length_cons, List.length_nil, Nat.zero_add, go_sem, Nat.reduceAdd, Nat.reduceEqDiff, Nat.reduceLT, reduceIte, reduceCtorEq, Nat.reduceBEq, Int.reduceLT, Int.reduceToNat, Int.reducePow, Nat.reduceLeDiff, Int.reduceLE, Nat.reduceMul, Nat.reduceSub]
              refine ⟨⟨by omega, by omega⟩, ?_⟩
              refine ⟨(out.take M ++ Q :: out.drop M, (Q, M + 1, adp d (out.length + 1) f, p', false), (nx + 1 + 1 + 1, nx + 1 + 1 + 1 + 1)), weak_forget ?_ (List.Sublist.refl _) (.cons_cons _ (List.nil_sublist _)), ⟨by simp only; omega, by simp only [hil]; omega, by simp only; omega, by simp only [hrd2], by simp only [hil]; omega, by simp only; omega, hadp, .inr ⟨rfl, by simp only [hil]; omega⟩⟩, by simp only; omega⟩
              simp only [eo, go_sem, Nat.reduceAdd, Nat.reduceEqDiff, Nat.reduceLT, reduceIte, reduceCtorEq, Nat.reduceBEq, Int.reduceLT, Int.reduceToNat, Int.reducePow, Nat.reduceLeDiff, Int.reduceLE, Nat.reduceMul, Nat.reduceSub, slotsBy, boxesBy, tipsBy, rawAt, nm, AV.ren, AV.renL, AV.under, AV.underL, List.all_nil, List.all_cons, bne_self_eq_false, List.getD_cons_zero, List.getD_cons_succ, List.length_nil, List.length_cons, and_true, true_and, slotsSub]
    · subst hp
      simp only [List.drop_length, dcd_nil, dec_irr, go_sem, Nat.reduceAdd, Nat.reduceEqDiff, Nat.reduceLT, reduceIte, reduceCtorEq, Nat.reduceBEq, Int.reduceLT, Int.reduceToNat, Int.reducePow, Nat.reduceLeDiff, Int.reduceLE, Nat.reduceMul, Nat.reduceSub]
      exact fin_sl (tt := some t) (.inr rfl) (by decide) (by simp only [Ab.look, Nat.reduceEqDiff, if_true, if_false]) (by simp only [Ab.look, Nat.reduceEqDiff, if_true, if_false])
end Go.Proofs.Ytmhpjoadfgplgaa

/-! ## PvD -/

namespace Go.Proofs.Ytmhpjoadfgplgaa
open Go Go.Ab

theorem cutS_mem {s : List Nat} : (∀ x ∈ (cutS s).1, x ∈ s) ∧ (∀ x ∈ (cutS s).2, x ∈ s) ∧ (cutS s).2.length + (cutS s).1.length ≤ s.length := by
  unfold cutS
  cases h : lastN 45 s s.length with
  | none => simp
  | some k =>
    have := (lastN_some h).1
    by_cases hk : 0 < k
    · simp only [if_pos hk]
      exact ⟨fun x hx => List.mem_of_mem_take hx, fun x hx => List.mem_of_mem_drop hx, by rw [List.length_take, List.length_drop]; omega⟩
    · simp only [if_neg hk]; simp

set_option maxRecDepth 10000 in
set_option maxHeartbeats 1000000 in
theorem refDecode_pure (s : List Nat) (hs : ∀ n ∈ s, n ≤ 255) (hl : s.length ≤ 1099511627776) : Pure Try.prog 18 [.lit (.string (txt s))] [] (decA (decR s)) := by
  refine pure0W Try.func18 c18 n18 e18 r18 (by simp) (by rfl) ?_
  simp only [a18, astart, argSlots, txt_size, go_sem, Nat.reduceAdd, Nat.reduceEqDiff, Nat.reduceLT, reduceIte, reduceCtorEq, Nat.reduceBEq, Int.reduceLT, Int.reduceToNat, Int.reducePow, Nat.reduceLeDiff, Int.reduceLE, Nat.reduceMul, Nat.reduceSub]
  by_cases hlen : 10000 < s.length
  · have d1 : decide ((s.length : Int) > 10000) = true := by simp; omega
    have er : decR s = ([], 41) := by unfold decR; rw [if_pos hlen]
    simp only [d1, er, go_sem, Nat.reduceAdd, Nat.reduceEqDiff, Nat.reduceLT, reduceIte, reduceCtorEq, Nat.reduceBEq, Int.reduceLT, Int.reduceToNat, Int.reducePow, Nat.reduceLeDiff, Int.reduceLE, Nat.reduceMul, Nat.reduceSub]
    exact fin_out (c := []) (.inr rfl) (by decide) (by simp only [Ab.look, Nat.reduceEqDiff, if_true, if_false]) (.inl ⟨rfl, rfl⟩) (by simp only [Ab.look, Nat.reduceEqDiff, if_true, if_false])
  · have d1 : decide ((s.length : Int) > 10000) = false := by simp; omega
    rw [decR_eq hlen]
    simp only [d1, go_sem, Nat.reduceAdd, Nat.reduceEqDiff, Nat.reduceLT, reduceIte, reduceCtorEq, Nat.reduceBEq, Int.reduceLT, Int.reduceToNat, Int.reducePow, Nat.reduceLeDiff, Int.reduceLE, Nat.reduceMul, Nat.reduceSub]
    refine callGo_pure (refCut_pure s hs hl) (by rfl) ?_
    obtain ⟨k1, k2, k3⟩ := cutS_mem (s := s)
    have hok := decT_ok (s := s)
    have hbad := fun (x : Nat) (hx : x ∈ (cutS s).1) => decT_bad (s := s) hx
    generalize (cutS s).1 = p at *
    generalize (cutS s).2 = r at *
    have hp255 : ∀ n ∈ p, n ≤ 255 := fun n hn => hs n (k1 n hn)
    simp only [go_sem, Nat.reduceAdd, Nat.reduceEqDiff, Nat.reduceLT, reduceIte, reduceCtorEq, Nat.reduceBEq, Int.reduceLT, Int.reduceToNat, Int.reducePow, Nat.reduceLeDiff, Int.reduceLE, Nat.reduceMul, Nat.reduceSub]
    refine loop_by (α := Nat × Nat × Nat) (fun x => ⟨[(4, some (.lit (.string (txt p)))), (5, some (.lit (.string (txt r)))), (6, some (rS (ofN (p.take x.1)) (some x.2.1))), (7, some (.lit (.int .i64 ((x.1 : Nat) : Int))))], [], [(x.2.1, 21)], x.2.2⟩)
      (fun x => x.1 ≤ p.length ∧ (∀ y ∈ p.take x.1, y < 128) ∧ x.2.1 < x.2.2) (fun x => p.length - x.1) (fun x y h => by
        have := congrArg (cnt 7) h
        simp [cnt, Ab.look] at this
        rw [this]) (0, 0, 1) ((weak_nil 6 21 (by simp only [go_sem, Nat.reduceAdd, Nat.reduceEqDiff, Nat.reduceLT, reduceIte, reduceCtorEq, Nat.reduceBEq, Int.reduceLT, Int.reduceToNat, Int.reducePow, Nat.reduceLeDiff, Int.reduceLE, Nat.reduceMul, Nat.reduceSub])).trans (weak_forget ?_ (List.Sublist.refl _) (List.Sublist.refl _))) ⟨by simp, by simp, by simp⟩ ?_
    · simp only [go_sem, Nat.reduceAdd, Nat.reduceEqDiff, Nat.reduceLT, reduceIte, reduceCtorEq, Nat.reduceBEq, Int.reduceLT, Int.reduceToNat, Int.reducePow, Nat.reduceLeDiff, Int.reduceLE, Nat.reduceMul, Nat.reduceSub, slotsBy, boxesBy, tipsBy, rawAt, nm, AV.ren, AV.renL, AV.under, AV.underL, List.all_nil, List.all_cons, bne_self_eq_false, List.getD_cons_zero, List.getD_cons_succ, List.length_nil, List.length_cons, and_true, true_and, slotsSub, Int.natCast_zero]
      exact rfl
    · rintro ⟨j, t, nx⟩ ⟨h1, h2, h3⟩
      simp only at h1 h2 h3
      simp only [txt_size, go_sem, Nat.reduceAdd, Nat.reduceEqDiff, Nat.reduceLT, reduceIte, reduceCtorEq, Nat.reduceBEq, Int.reduceLT, Int.reduceToNat, Int.reducePow, Nat.reduceLeDiff, Int.reduceLE, Nat.reduceMul, Nat.reduceSub]
      rcases Nat.lt_or_eq_of_le h1 with hj | hj
      · have w : IntKind.i64.wrap ((j : Int) + 1) = ((j + 1 : Nat) : Int) := by rw [wrap_i64 _ (by omega) (by omega)]; omega
        have htk2 : p.take (j + 1) = p.take j ++ [p[j]] := List.take_succ_eq_append_getElem hj
        have hmem := List.getElem_mem hj
        have hml := List.length_take_le j p
        have hx := txt_get hj
        have hu := u8_int (hp255 _ hmem)
        simp only [dec_lt hj, hx, hu, go_sem, Nat.reduceAdd, Nat.reduceEqDiff, Nat.reduceLT, reduceIte, reduceCtorEq, Nat.reduceBEq, Int.reduceLT, Int.reduceToNat, Int.reducePow, Nat.reduceLeDiff, Int.reduceLE, Nat.reduceMul, Nat.reduceSub]
        generalize p[j] = y at *
        by_cases hy : y < 128
        · have d2 : decide ((y : Int) > 127) = false := by simp; omega
          have w2 : IntKind.i32.wrap (y : Int) = (y : Int) := wrap_i32 _ (by omega) (by omega)
          have hne : (nx = t) = False := eq_false (by omega)
          have hapc : ((p.take j).length + 1) * 4 ≤ 140737488355328 ∧ (p.take j).length + 1 ≤ 9223372036854775807 ∧ True := ⟨by omega, by omega, trivial⟩
          have eo : runes (ofN (p.take j)) ++ [[Value.int .i32 (y : Int)]] = runes (ofN (p.take (j + 1))) := by
            rw [htk2]; simp [runes, ofN]
          simp only [d2, w2, w, hx, hu, hne, rS, runes_length, ofN_length, List.length_cons, List.length_nil, hapc, eo, if_false, if_true, go_sem, Nat.reduceAdd, Nat.reduceEqDiff, Nat.reduceLT, reduceIte, reduceCtorEq, Nat.reduceBEq, Int.reduceLT, Int.reduceToNat, Int.reducePow, Nat.reduceLeDiff, Int.reduceLE, Nat.reduceMul, Nat.reduceSub]
          refine ⟨(j + 1, nx + 1, nx + 2), weak_forget ?_ (List.Sublist.refl _) (.cons_cons _ (List.nil_sublist _)), ⟨hj, ?_, by simp only; omega⟩, by simp only; omega⟩
          · simp only [rS, go_sem, Nat.reduceAdd, Nat.reduceEqDiff, Nat.reduceLT, reduceIte, reduceCtorEq, Nat.reduceBEq, Int.reduceLT, Int.reduceToNat, Int.reducePow, Nat.reduceLeDiff, Int.reduceLE, Nat.reduceMul, Nat.reduceSub, slotsBy, boxesBy, tipsBy, rawAt, nm, AV.ren, AV.renL, AV.under, AV.underL, List.all_nil, List.all_cons, bne_self_eq_false, List.getD_cons_zero, List.getD_cons_succ, List.length_nil, List.length_cons, and_true, true_and, slotsSub]
          · intro z hz
            simp only at hz
            rw [htk2] at hz
            rcases List.mem_append.1 hz with hz | hz
            · exact h2 z hz
            · simp at hz; omega
        · have d2 : decide ((y : Int) > 127) = true := by simp; omega
          have e2 : decT s = none := hbad y hmem hy
          rw [e2]
          simp only [d2, go_sem, Nat.reduceAdd, Nat.reduceEqDiff, Nat.reduceLT, reduceIte, reduceCtorEq, Nat.reduceBEq, Int.reduceLT, Int.reduceToNat, Int.reducePow, Nat.reduceLeDiff, Int.reduceLE, Nat.reduceMul, Nat.reduceSub]
          exact fin_out (c := []) (.inr rfl) (by decide) (by simp only [Ab.look, Nat.reduceEqDiff, if_true, if_false]) (.inl ⟨rfl, rfl⟩) (by simp only [Ab.look, Nat.reduceEqDiff, if_true, if_false])
      · subst hj
        rw [List.take_length] at h2
        rw [hok h2]
        simp only [dec_irr, List.take_length, go_sem, Nat.reduceAdd, Nat.reduceEqDiff, Nat.reduceLT, reduceIte, reduceCtorEq, Nat.reduceBEq, Int.reduceLT, Int.reduceToNat, Int.reducePow, Nat.reduceLeDiff, Int.reduceLE, Nat.reduceMul, Nat.reduceSub]
        exact refdec_tail (fun n hn => hs n (k2 n hn)) (by omega) h3 (by simp only [Ab.look, Nat.reduceEqDiff, if_true, if_false]) (by simp only [Ab.look, Nat.reduceEqDiff, if_true, if_false]) (by simp only [Ab.look, Nat.reduceEqDiff, if_true, if_false])
def a3 : ACode :=
  (.seq (.reg [⟨(.some 4), (.mv (.k (.bool false))), .none⟩]) (.seq (.seq (.reg [⟨(.some 13), (.mv (.t 0)), .none⟩, ⟨(.some 14), (.len (.t 13)), .none⟩, ⟨(.some 15), (.bin .gtr (.t 14) (.k (.int .i64
  300))), .none⟩, ⟨(.some 16), (.mv (.t 15)), .none⟩, ⟨(.some 17), (.mv (.t 1)), (.some (16, false))⟩, ⟨(.some 18), (.lenS (.t 17)), (.some (16, false))⟩, ⟨(.some 19), (.bin .gtr (.t 18) (.k (.int .i64
  600))), (.some (16, false))⟩, ⟨(.some 20), (.pick (.t 16) (.k (.bool true)) (.t 19)), .none⟩]) (.cond (.t 20) (.seq (.reg [⟨(.some 21), (.call (.f 14) []), .none⟩, ⟨(.some 4), (.mv (.t 21)), .none⟩])
  .ret) .skip)) (.seq (.reg [⟨(.some 23), (.mv (.t 0)), .none⟩, ⟨(.some 24), (.call (.f 15) [(.t 23)]), .none⟩, ⟨(.some 22), (.mv (.t 24)), .none⟩, ⟨(.some 25), (.ext (.t 22) 0), .none⟩, ⟨(.some 26),
  (.ext (.t 22) 1), .none⟩, ⟨(.some 5), (.mv (.t 25)), .none⟩, ⟨(.some 6), (.mv (.t 26)), .none⟩]) (.seq (.reg [⟨(.some 28), (.mv (.t 0)), .none⟩, ⟨(.some 29), (.call (.f 16) [(.t 28)]), .none⟩, ⟨(.some
  27), (.mv (.t 29)), .none⟩, ⟨(.some 30), (.ext (.t 27) 0), .none⟩, ⟨(.some 31), (.ext (.t 27) 1), .none⟩, ⟨(.some 7), (.mv (.t 30)), .none⟩, ⟨(.some 8), (.mv (.t 31)), .none⟩]) (.seq (.reg [⟨(.some
  33), (.mv (.t 1)), .none⟩, ⟨(.some 34), (.call (.f 17) [(.t 33)]), .none⟩, ⟨(.some 32), (.mv (.t 34)), .none⟩, ⟨(.some 35), (.ext (.t 32) 0), .none⟩, ⟨(.some 36), (.ext (.t 32) 1), .none⟩, ⟨(.some 9),
  (.mv (.t 35)), .none⟩, ⟨(.some 10), (.mv (.t 36)), .none⟩]) (.seq (.reg [⟨(.some 38), (.mv (.t 1)), .none⟩, ⟨(.some 39), (.call (.f 18) [(.t 38)]), .none⟩, ⟨(.some 37), (.mv (.t 39)), .none⟩, ⟨(.some
  40), (.ext (.t 37) 0), .none⟩, ⟨(.some 41), (.ext (.t 37) 1), .none⟩, ⟨(.some 11), (.mv (.t 40)), .none⟩, ⟨(.some 12), (.mv (.t 41)), .none⟩]) (.seq (.reg [⟨(.some 42), (.mv (.t 5)), .none⟩, ⟨(.some
  43), (.mv (.t 7)), .none⟩, ⟨(.some 44), (.bin .eql (.t 42) (.t 43)), .none⟩, ⟨(.some 45), (.mv (.t 44)), .none⟩, ⟨(.some 46), (.mv (.t 6)), (.some (45, true))⟩, ⟨(.some 47), (.mv (.t 8)), (.some (45,
  true))⟩, ⟨(.some 48), (.bin .eql (.t 46) (.t 47)), (.some (45, true))⟩, ⟨(.some 49), (.pick (.t 45) (.t 48) (.k (.bool false))), .none⟩, ⟨(.some 50), (.mv (.t 49)), .none⟩, ⟨(.some 51), (.mv (.t 9)),
  (.some (50, true))⟩, ⟨(.some 52), (.mv (.t 11)), (.some (50, true))⟩, ⟨(.some 53), (.call (.f 19) [(.t 51), (.t 52)]), (.some (50, true))⟩, ⟨(.some 54), (.pick (.t 50) (.t 53) (.k (.bool false))),
  .none⟩, ⟨(.some 55), (.mv (.t 54)), .none⟩, ⟨(.some 56), (.mv (.t 10)), (.some (55, true))⟩, ⟨(.some 57), (.mv (.t 12)), (.some (55, true))⟩, ⟨(.some 58), (.bin .eql (.t 56) (.t 57)), (.some (55,
  true))⟩, ⟨(.some 59), (.pick (.t 55) (.t 58) (.k (.bool false))), .none⟩, ⟨(.some 60), (.mv (.t 59)), .none⟩, ⟨(.some 61), (.call (.f 14) []), (.some (60, true))⟩, ⟨(.some 62), (.pick (.t 60) (.t 61)
  (.k (.bool false))), .none⟩, ⟨(.some 4), (.mv (.t 62)), .none⟩]) .ret)))))))
theorem c3 : Try.f3.body.bind (cCode Try.prog 63) = some a3 := by kernel_rfl
theorem r3 : Try.f3.results.toList = [(.tmp 4)] := by kernel_rfl
theorem n3 : Try.f3.ntmps = 63 := by kernel_rfl
theorem e3 : Enters Try.prog 3 := enters_of Try.func3 (by kernel_rfl) (by kernel_rfl)

set_option maxRecDepth 10000 in
set_option maxHeartbeats 1000000 in
theorem punyTells_pure (l : List Int) (hl : Runes l) (z : ByteArray) (hz : z.size ≤ 140737488351232) : Pure Try.prog 3 [rS l none, .lit (.string z)] [] (.lit (.bool true)) := by
  obtain ⟨s, rfl, hs, hsl⟩ := txt_of z
  rw [← hsl] at hz
  refine pure0 Try.func3 c3 n3 e3 r3 (by simp) (by rfl) ?_
  simp only [a3, astart, argSlots, runes_length, go_sem, Nat.reduceAdd, Nat.reduceEqDiff, Nat.reduceLT, reduceIte, reduceCtorEq, Nat.reduceBEq, Int.reduceLT, Int.reduceToNat, Int.reducePow, Nat.reduceLeDiff, Int.reduceLE, Nat.reduceMul, Nat.reduceSub]
  by_cases h1 : 300 < l.length
  · have d1 : decide ((l.length : Int) > 300) = true := by simp; omega
    simp only [d1, go_sem, Nat.reduceAdd, Nat.reduceEqDiff, Nat.reduceLT, reduceIte, reduceCtorEq, Nat.reduceBEq, Int.reduceLT, Int.reduceToNat, Int.reducePow, Nat.reduceLeDiff, Int.reduceLE, Nat.reduceMul, Nat.reduceSub]
    refine callGo_pure awake04_pure (by rfl) ?_
    simp only [go_sem, Nat.reduceAdd, Nat.reduceEqDiff, Nat.reduceLT, reduceIte, reduceCtorEq, Nat.reduceBEq, Int.reduceLT, Int.reduceToNat, Int.reducePow, Nat.reduceLeDiff, Int.reduceLE, Nat.reduceMul, Nat.reduceSub]
    simp only [Done, resAV, resL, resOne, look_nil, look_cons, Nat.reduceEqDiff, if_true, if_false, reduceIte, ite_true, ite_false, Nat.zero_ne_one, Nat.one_ne_zero, reduceCtorEq, true_or, or_true, true_and, Option.some.injEq, AV.lit.injEq, Value.int.injEq, Value.bool.injEq]
  have d1 : decide ((l.length : Int) > 300) = false := by simp; omega
  by_cases h3 : 600 < s.length
  · have d3 : decide ((s.length : Int) > 600) = true := by simp; omega
    simp only [d1, d3, txt_size, runes_length, go_sem, Nat.reduceAdd, Nat.reduceEqDiff, Nat.reduceLT, reduceIte, reduceCtorEq, Nat.reduceBEq, Int.reduceLT, Int.reduceToNat, Int.reducePow, Nat.reduceLeDiff, Int.reduceLE, Nat.reduceMul, Nat.reduceSub]
    refine callGo_pure awake04_pure (by rfl) ?_
    simp only [go_sem, Nat.reduceAdd, Nat.reduceEqDiff, Nat.reduceLT, reduceIte, reduceCtorEq, Nat.reduceBEq, Int.reduceLT, Int.reduceToNat, Int.reducePow, Nat.reduceLeDiff, Int.reduceLE, Nat.reduceMul, Nat.reduceSub]
    simp only [Done, resAV, resL, resOne, look_nil, look_cons, Nat.reduceEqDiff, if_true, if_false, reduceIte, ite_true, ite_false, Nat.zero_ne_one, Nat.one_ne_zero, reduceCtorEq, true_or, or_true, true_and, Option.some.injEq, AV.lit.injEq, Value.int.injEq, Value.bool.injEq]
  have d3 : decide ((s.length : Int) > 600) = false := by simp; omega
  simp only [d1, d3, txt_size, runes_length, go_sem, Nat.reduceAdd, Nat.reduceEqDiff, Nat.reduceLT, reduceIte, reduceCtorEq, Nat.reduceBEq, Int.reduceLT, Int.reduceToNat, Int.reducePow, Nat.reduceLeDiff, Int.reduceLE, Nat.reduceMul, Nat.reduceSub]
  refine callGo_pure (Encode_pure l (by omega)) (by rfl) ?_
  simp only [go_sem, Nat.reduceAdd, Nat.reduceEqDiff, Nat.reduceLT, reduceIte, reduceCtorEq, Nat.reduceBEq, Int.reduceLT, Int.reduceToNat, Int.reducePow, Nat.reduceLeDiff, Int.reduceLE, Nat.reduceMul, Nat.reduceSub]
  refine callGo_pure (refEncode_pure l (by omega)) (by rfl) ?_
  simp only [go_sem, Nat.reduceAdd, Nat.reduceEqDiff, Nat.reduceLT, reduceIte, reduceCtorEq, Nat.reduceBEq, Int.reduceLT, Int.reduceToNat, Int.reducePow, Nat.reduceLeDiff, Int.reduceLE, Nat.reduceMul, Nat.reduceSub]
  refine callGo_pure (Decode_pure s hs (by omega)) (by rfl) ?_
  simp only [decA, go_sem, Nat.reduceAdd, Nat.reduceEqDiff, Nat.reduceLT, reduceIte, reduceCtorEq, Nat.reduceBEq, Int.reduceLT, Int.reduceToNat, Int.reducePow, Nat.reduceLeDiff, Int.reduceLE, Nat.reduceMul, Nat.reduceSub]
  refine callGo_pure (refDecode_pure s hs (by omega)) (by rfl) ?_
  have e1 : ∀ b : ByteArray, (b.toList == b.toList) = true := fun b => by simp
  have hdl : (decR s).1.length ≤ 10000 := by
    unfold decR
    rw [if_neg (by omega)]
    cases hd : decT s with
    | none => simp
    | some c =>
      obtain ⟨g1, g2⟩ := enc_dec hd
      have g3 := enc_ge g2
      rw [g1] at g3
      simp only; omega
  simp only [decA, binStr, e1, beq_self_eq_true, go_sem, Nat.reduceAdd, Nat.reduceEqDiff, Nat.reduceLT, reduceIte, reduceCtorEq, Nat.reduceBEq, Int.reduceLT, Int.reduceToNat, Int.reducePow, Nat.reduceLeDiff, Int.reduceLE, Nat.reduceMul, Nat.reduceSub]
  refine callGo_pure (Same_pure (ofN (decR s).1) (ofN (decR s).1) (by rw [ofN_length]; omega)) (by rfl) ?_
  simp only [beq_self_eq_true, go_sem, Nat.reduceAdd, Nat.reduceEqDiff, Nat.reduceLT, reduceIte, reduceCtorEq, Nat.reduceBEq, Int.reduceLT, Int.reduceToNat, Int.reducePow, Nat.reduceLeDiff, Int.reduceLE, Nat.reduceMul, Nat.reduceSub]
  refine callGo_pure awake04_pure (by rfl) ?_
  simp only [go_sem, Nat.reduceAdd, Nat.reduceEqDiff, Nat.reduceLT, reduceIte, reduceCtorEq, Nat.reduceBEq, Int.reduceLT, Int.reduceToNat, Int.reducePow, Nat.reduceLeDiff, Int.reduceLE, Nat.reduceMul, Nat.reduceSub]
  simp only [Done, resAV, resL, resOne, look_nil, look_cons, Nat.reduceEqDiff, if_true, if_false, reduceIte, ite_true, ite_false, Nat.zero_ne_one, Nat.one_ne_zero, reduceCtorEq, true_or, or_true, true_and, Option.some.injEq, AV.lit.injEq, Value.int.injEq, Value.bool.injEq]

theorem punyTells_any (avs : List AV) (h : Args Try.prog Try.f3.params.toList avs) : Pure Try.prog 3 avs [] (.lit (.bool true)) := by
  have hp : Try.f3.params.toList = [22, 9] := by kernel_rfl
  rw [hp] at h
  obtain ⟨av0, rest0, rfl, a0, h0⟩ := h
  obtain ⟨av1, rest1, rfl, a1, rfl⟩ := h0
  obtain ⟨z0, rfl, w0, s0⟩ := arg_ints (e := 21) (k := .i32) (by kernel_rfl) (by kernel_rfl) a0
  rw [show Try.prog.bytesOf 21 = 4 from by kernel_rfl] at s0
  obtain ⟨z1, rfl, w1⟩ := arg_str (by kernel_rfl) a1
  exact punyTells_pure z0 ⟨by omega, fun n hn => by simpa [Lit.wf, IntKind.min, IntKind.max, IntKind.signed, IntKind.bits] using w0 n hn⟩ z1 w1

set_option maxRecDepth 100000 in
theorem punyTells_lifted (os : Os) (started : os.Started) (H : Type) (enc : TypeId × Value → H) :
    ReturnsInHanded {} Try.checked os 3 .any (Rows.punyTellsSpec.pre6 enc Try.prog Try.f3 Rows.punyTellsRow.domain false) (Rows.punyTellsSpec.post enc Try.prog Try.f3 false true false false) := by
  refine law_returns (C := Try.checked) (tb := 4) (by kernel_rfl) started (by kernel_rfl) Try.func3
    (ChangeSpec.witness6 (enc := enc) (C := Try.checked) false ⟨#[], #[.slice none 0 0, .string ⟨#[]⟩], []⟩ 8 (by kernel_rfl) (by kernel_rfl) (by kernel_rfl) (by kernel_rfl))
    (by kernel_rfl) (by kernel_rfl) rfl rfl (by kernel_rfl) (by kernel_rfl) ?_ punyTells_any
  intro ds hds
  have hp : Try.f3.params.toList = [22, 9] := by kernel_rfl
  rw [hp] at hds
  match ds, hds with
  | [d0, d1], _ => exact ⟨rfl, rfl, rfl⟩

theorem punyTells_holds : Rows.PunyTellsSaid :=
  OpenClaim.holds_of_wide 3 Try.f3 rfl rfl rfl rfl rfl rfl rfl ⟨rfl, rfl, rfl, rfl, rfl⟩ rfl rfl rfl rfl rfl (by kernel_rfl) Try.func3 (by kernel_rfl)
    (of_decide_eq_true (by kernel_rfl)) (by unfold Func.isWrapper; first | (rw [if_pos (by decide +kernel)]; kernel_rfl) | (rw [if_neg (by decide +kernel)]; exact ⟨rfl, rfl⟩))
    (fun os started H enc _ => punyTells_lifted os started H enc)
end Go.Proofs.Ytmhpjoadfgplgaa
