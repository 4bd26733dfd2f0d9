/-
Sorting a part of a row, equal ones left in their order: sort.stable, sort.Stable. Conditions: none.
-/
import Derived.Test.YtmhpjoadfgplgaaNrmV
set_option linter.unusedSimpArgs false
set_option linter.unusedVariables false
set_option linter.unusedSectionVars false
namespace Go.Proofs.Ytmhpjoadfgplgaa
open Go Go.Ab
def a99 : ACode :=
  (.seq (.reg [⟨(.some 4), (.mv (.k (.int .i64 20))), .none⟩]) (.seq (.reg [⟨(.some 8), (.mv (.t 4)), .none⟩, ⟨(.some 5), (.mv (.k (.int .i64 0))), .none⟩, ⟨(.some 6), (.mv (.t 8)), .none⟩]) (.seq
  (.block 0 (.loop (.seq (.seq (.reg [⟨(.some 9), (.mv (.t 6)), .none⟩, ⟨(.some 10), (.mv (.t 1)), .none⟩, ⟨(.some 11), (.bin .leq (.t 9) (.t 10)), .none⟩]) (.cond (.t 11) .skip (.exit 0))) (.block 1
  (.seq (.reg [⟨(.some 12), (.mv (.t 0)), .none⟩, ⟨(.some 13), (.mv (.t 5)), .none⟩, ⟨(.some 14), (.mv (.t 6)), .none⟩, ⟨(.some 15), (.call (.f 104) [(.t 12), (.t 13), (.t 14)]), .none⟩]) (.seq (.reg
  [⟨(.some 16), (.mv (.t 6)), .none⟩, ⟨(.some 5), (.mv (.t 16)), .none⟩]) (.reg [⟨(.some 17), (.mv (.t 6)), .none⟩, ⟨(.some 18), (.mv (.t 4)), .none⟩, ⟨(.some 19), (.bin .add (.t 17) (.t 18)), .none⟩,
  ⟨(.some 6), (.mv (.t 19)), .none⟩]))))))) (.seq (.reg [⟨(.some 20), (.mv (.t 0)), .none⟩, ⟨(.some 21), (.mv (.t 5)), .none⟩, ⟨(.some 22), (.mv (.t 1)), .none⟩, ⟨(.some 23), (.call (.f 104) [(.t 20),
  (.t 21), (.t 22)]), .none⟩]) (.block 2 (.loop (.seq (.seq (.reg [⟨(.some 24), (.mv (.t 4)), .none⟩, ⟨(.some 25), (.mv (.t 1)), .none⟩, ⟨(.some 26), (.bin .lss (.t 24) (.t 25)), .none⟩]) (.cond (.t 26)
  .skip (.exit 2))) (.block 3 (.seq (.reg [⟨(.some 27), (.mv (.t 4)), .none⟩, ⟨(.some 28), (.bin .mul (.k (.int .i64 2)) (.t 27)), .none⟩, ⟨(.some 5), (.mv (.k (.int .i64 0))), .none⟩, ⟨(.some 6), (.mv
  (.t 28)), .none⟩]) (.seq (.block 4 (.loop (.seq (.seq (.reg [⟨(.some 29), (.mv (.t 6)), .none⟩, ⟨(.some 30), (.mv (.t 1)), .none⟩, ⟨(.some 31), (.bin .leq (.t 29) (.t 30)), .none⟩]) (.cond (.t 31)
  .skip (.exit 4))) (.block 5 (.seq (.reg [⟨(.some 32), (.mv (.t 0)), .none⟩, ⟨(.some 33), (.mv (.t 5)), .none⟩, ⟨(.some 34), (.mv (.t 5)), .none⟩, ⟨(.some 35), (.mv (.t 4)), .none⟩, ⟨(.some 36), (.bin
  .add (.t 34) (.t 35)), .none⟩, ⟨(.some 37), (.mv (.t 6)), .none⟩, ⟨(.some 38), (.call (.f 105) [(.t 32), (.t 33), (.t 36), (.t 37)]), .none⟩]) (.seq (.reg [⟨(.some 39), (.mv (.t 6)), .none⟩, ⟨(.some
  5), (.mv (.t 39)), .none⟩]) (.reg [⟨(.some 40), (.mv (.t 6)), .none⟩, ⟨(.some 41), (.mv (.t 4)), .none⟩, ⟨(.some 42), (.bin .mul (.k (.int .i64 2)) (.t 41)), .none⟩, ⟨(.some 43), (.bin .add (.t 40)
  (.t 42)), .none⟩, ⟨(.some 6), (.mv (.t 43)), .none⟩]))))))) (.seq (.seq (.reg [⟨(.some 44), (.mv (.t 5)), .none⟩, ⟨(.some 45), (.mv (.t 4)), .none⟩, ⟨(.some 46), (.bin .add (.t 44) (.t 45)), .none⟩,
  ⟨(.some 7), (.mv (.t 46)), .none⟩]) (.seq (.reg [⟨(.some 47), (.mv (.t 7)), .none⟩, ⟨(.some 48), (.mv (.t 1)), .none⟩, ⟨(.some 49), (.bin .lss (.t 47) (.t 48)), .none⟩]) (.cond (.t 49) (.reg [⟨(.some
  50), (.mv (.t 0)), .none⟩, ⟨(.some 51), (.mv (.t 5)), .none⟩, ⟨(.some 52), (.mv (.t 7)), .none⟩, ⟨(.some 53), (.mv (.t 1)), .none⟩, ⟨(.some 54), (.call (.f 105) [(.t 50), (.t 51), (.t 52), (.t 53)]),
  .none⟩]) .skip))) (.reg [⟨(.some 55), (.mv (.t 4)), .none⟩, ⟨(.some 56), (.bin .mul (.t 55) (.k (.int .i64 2))), .none⟩, ⟨(.some 4), (.mv (.t 56)), .none⟩]))))))))))))
theorem c99 : Try.f99.body.bind (cCode Try.prog 57) = some a99 := by kernel_rfl
theorem r99 : Try.f99.results.toList = [] := by kernel_rfl
theorem n99 : Try.f99.ntmps = 57 := by kernel_rfl
theorem e99 : Enters Try.prog 99 := enters_of Try.func99 (by kernel_rfl) (by kernel_rfl)
def a87 : ACode :=
  (.reg [⟨(.some 2), (.mv (.t 0)), .none⟩, ⟨(.some 3), (.mv (.t 0)), .none⟩, ⟨(.some 4), (.call (.k (.func (.method "Len") #[] #[])) [(.t 3)]), .none⟩, ⟨(.some 5), (.call (.f 99) [(.t 2), (.t 4)]),
  .none⟩])
theorem c87 : Try.f87.body.bind (cCode Try.prog 6) = some a87 := by kernel_rfl
theorem r87 : Try.f87.results.toList = [] := by kernel_rfl
theorem n87 : Try.f87.ntmps = 6 := by kernel_rfl
theorem e87 : Enters Try.prog 87 := enters_of Try.func87 (by kernel_rfl) (by kernel_rfl)

/-- Rising rows of one length. -/
def Fl (bs : Nat) (R : List (List Int)) : Prop := ∀ r ∈ R, Asc cls r ∧ r.length = bs
theorem fl_length {bs : Nat} : ∀ {R : List (List Int)}, Fl bs R → R.flatten.length = bs * R.length
  | [], _ => by simp
  | r :: R, h => by
    have := fl_length (R := R) fun x hx => h x (by simp [hx])
    have h1 := (h r (by simp)).2
    rw [List.flatten_cons, List.length_append, this, h1, List.length_cons, Nat.mul_add]; omega
theorem fl_snoc {bs : Nat} {R : List (List Int)} {r : List Int} (h : Fl bs R) (hr : Asc cls r) (hl : r.length = bs) : Fl bs (R ++ [r]) := by
  intro x hx
  rcases List.mem_append.1 hx with hx | hx
  · exact h x hx
  · simp only [List.mem_cons, List.not_mem_nil, or_false] at hx
    subst hx; exact ⟨hr, hl⟩
theorem canon_pos {L D : List Int} (h : canon cls L = canon cls D) (hD : ∀ x ∈ D, 0 < cls x) : ∀ x ∈ L, 0 < cls x := fun x hx => hD x (by rw [← canon_mem cls, ← h, canon_mem]; exact hx)
theorem canon_part {P A Q : List Int} : canon cls (P ++ canon cls A ++ Q) = canon cls (P ++ A ++ Q) := canon_mid cls P Q (canon_idem cls A)

set_option maxRecDepth 10000 in
set_option maxHeartbeats 4000000 in
theorem stable_ok (X Y D : List Int) {n nx : Nat} (hL : D.length = n) (hp : ∀ x ∈ D, 0 < cls x) (hn : n ≤ 1000000) (hnx : 2 ≤ nx)
    {K : AV → List (Nat × List AV) → List (Nat × TypeId) → Nat → Prop} (hK : ∀ r nx', 2 ≤ nx' → K r (St X Y (canon cls D)) [] nx') :
    CallOK Try.prog 99 [ifc X n, .lit (.int .i64 (n : Int))] (St X Y D) [] nx K := by
  refine callOK_walk Try.func99 c99 n99 e99 r99 (by simp) ?_
  simp only [a99, astart, argSlots, go_sem, Nat.reduceAdd, Nat.reduceEqDiff, Nat.reduceLT, reduceIte, reduceCtorEq, Nat.reduceBEq, Int.reduceLT, Int.reduceToNat, Int.reducePow, Nat.reduceLeDiff, Int.reduceLE, Nat.reduceMul, Nat.reduceSub]
  refine loop_by (α := Nat × List Int × Nat) (fun v => ⟨[(0, some (ifc X n)), (1, some (.lit (.int .i64 (n : Int)))), (4, some (.lit (.int .i64 20))), (5, some (.lit (.int .i64 ((v.1 : Nat) : Int)))), (6, some (.lit (.int .i64 ((v.1 + 20 : Nat) : Int))))], St X Y v.2.1, [], v.2.2⟩)
    (fun v => 2 ≤ v.2.2 ∧ v.1 ≤ n ∧ ∃ R t, v.2.1 = R.flatten ++ t ∧ R.flatten.length = v.1 ∧ Fl 20 R ∧ v.1 + t.length = n ∧ canon cls v.2.1 = canon cls D) (fun v => n - v.1) (fun v w h => by
      have h1 := congrArg (cnt 5) h
      simp [cnt, Ab.look] at h1
      rw [h1]) (0, D, nx) (weak_forget ?_ (List.Sublist.refl _) (List.Sublist.refl _)) ⟨hnx, Nat.zero_le _, [], D, by simp, rfl, by intro x hx; simp at hx, by simpa using hL, rfl⟩ ?_
  · simp only [go_sem, Nat.reduceAdd, Nat.reduceEqDiff, Nat.reduceLT, reduceIte, reduceCtorEq, Nat.reduceBEq, Int.reduceLT, Int.reduceToNat, Int.reducePow, Nat.reduceLeDiff, Int.reduceLE, Nat.reduceMul, Nat.reduceSub, slotsSub]
    try simp
  rintro ⟨a, L, nx1⟩ ⟨hx1, ha, R, t, rfl, hR, hF, ht, hC⟩
  simp only at hx1 ha hR hF ht hC
  have hpos := canon_pos hC hp
  simp only [go_sem, Nat.reduceAdd, Nat.reduceEqDiff, Nat.reduceLT, reduceIte, reduceCtorEq, Nat.reduceBEq, Int.reduceLT, Int.reduceToNat, Int.reducePow, Nat.reduceLeDiff, Int.reduceLE, Nat.reduceMul, Nat.reduceSub]
  by_cases hle : a + 20 ≤ n
  · have e1 : decide (((a + 20 : Nat) : Int) ≤ (n : Int)) = true := by simp only [decide_eq_true_eq]; omega
    have w1 : IntKind.i64.wrap (((a + 20 : Nat) : Int) + 20) = ((a + 20 + 20 : Nat) : Int) := by rw [wrap_i64 _ (by omega) (by omega)]; omega
    have hpt : ∀ x ∈ t.take 20, 0 < cls x := fun x hx => hpos x (by simp [List.mem_of_mem_take hx])
    have hsp : R.flatten ++ t = R.flatten ++ t.take 20 ++ t.drop 20 := by rw [List.append_assoc, List.take_append_drop]
    simp only [e1, go_sem, Nat.reduceAdd, Nat.reduceEqDiff, Nat.reduceLT, reduceIte, reduceCtorEq, Nat.reduceBEq, Int.reduceLT, Int.reduceToNat, Int.reducePow, Nat.reduceLeDiff, Int.reduceLE, Nat.reduceMul, Nat.reduceSub]
    rw [hsp]
    refine callGo_ok (insertionSort_ok X Y R.flatten (t.take 20) (t.drop 20) (by simp only [List.length_append, List.length_take, List.length_drop]; omega) hR (by simp only [List.length_take]; omega) hpt (by omega) hx1 fun r nx2 hx2 => ?_)
    simp only [w1, go_sem, Nat.reduceAdd, Nat.reduceEqDiff, Nat.reduceLT, reduceIte, reduceCtorEq, Nat.reduceBEq, Int.reduceLT, Int.reduceToNat, Int.reducePow, Nat.reduceLeDiff, Int.reduceLE, Nat.reduceMul, Nat.reduceSub]
    refine ⟨(a + 20, R.flatten ++ canon cls (t.take 20) ++ t.drop 20, nx2), weak_forget ?_ (List.Sublist.refl _) (List.Sublist.refl _), ⟨hx2, hle, R ++ [canon cls (t.take 20)], t.drop 20, by simp, ?_, ?_, by simp; omega, ?_⟩, by simp only; omega⟩
    · simp only [go_sem, Nat.reduceAdd, Nat.reduceEqDiff, Nat.reduceLT, reduceIte, reduceCtorEq, Nat.reduceBEq, Int.reduceLT, Int.reduceToNat, Int.reducePow, Nat.reduceLeDiff, Int.reduceLE, Nat.reduceMul, Nat.reduceSub, slotsSub]
    · simp only [List.flatten_append, List.flatten_cons, List.flatten_nil, List.append_nil, List.length_append, canon_length, List.length_take]; omega
    · exact fl_snoc hF (canon_asc cls hpt) (by rw [canon_length]; simp; omega)
    · rw [canon_part, ← hsp]; exact hC
  · have e1 : decide (((a + 20 : Nat) : Int) ≤ (n : Int)) = false := by simp only [decide_eq_false_iff_not]; omega
    simp only [e1, go_sem, Nat.reduceAdd, Nat.reduceEqDiff, Nat.reduceLT, reduceIte, reduceCtorEq, Nat.reduceBEq, Int.reduceLT, Int.reduceToNat, Int.reducePow, Nat.reduceLeDiff, Int.reduceLE, Nat.reduceMul, Nat.reduceSub]
    have hpt : ∀ x ∈ t, 0 < cls x := fun x hx => hpos x (by simp [hx])
    rw [show R.flatten ++ t = R.flatten ++ t ++ [] by simp]
    refine callGo_ok (insertionSort_ok X Y R.flatten t [] (by simp only [List.length_append, List.length_nil]; omega) hR ht hpt (by omega) hx1 fun r nx2 hx2 => ?_)
    have hC2 : canon cls (R.flatten ++ canon cls t) = canon cls D := by rw [← hC]; exact canon_right cls (canon_idem cls t)
    have hasc : Asc cls (canon cls t) := canon_asc cls hpt
    have hlt : R.flatten.length + (canon cls t).length = n := by rw [canon_length]; omega
    have hl20 : (canon cls t).length < 20 := by rw [canon_length]; omega
    rw [List.append_nil]
    generalize canon cls t = t' at hC2 hasc hlt hl20
    clear hC hpos hpt ht
    simp only [go_sem, Nat.reduceAdd, Nat.reduceEqDiff, Nat.reduceLT, reduceIte, reduceCtorEq, Nat.reduceBEq, Int.reduceLT, Int.reduceToNat, Int.reducePow, Nat.reduceLeDiff, Int.reduceLE, Nat.reduceMul, Nat.reduceSub]
    refine loop_by (α := Nat × List Int × Nat) (fun v => ⟨[(0, some (ifc X n)), (1, some (.lit (.int .i64 (n : Int)))), (4, some (.lit (.int .i64 ((v.1 : Nat) : Int))))], St X Y v.2.1, [], v.2.2⟩)
      (fun v => 2 ≤ v.2.2 ∧ (1 ≤ v.1 ∧ v.1 ≤ 2 * n + 20) ∧ ∃ R t, v.2.1 = R.flatten ++ t ∧ Fl v.1 R ∧ Asc cls t ∧ t.length < v.1 ∧ R.flatten.length + t.length = n ∧ canon cls v.2.1 = canon cls D) (fun v => n - v.1) (fun v w h => by
        have h1 := congrArg (cnt 4) h
        simp [cnt, Ab.look] at h1
        rw [h1]) (20, R.flatten ++ t', nx2) (weak_forget ?_ (List.Sublist.refl _) (List.Sublist.refl _)) ⟨hx2, by omega, R, t', rfl, hF, hasc, hl20, hlt, hC2⟩ ?_
    · simp only [go_sem, Nat.reduceAdd, Nat.reduceEqDiff, Nat.reduceLT, reduceIte, reduceCtorEq, Nat.reduceBEq, Int.reduceLT, Int.reduceToNat, Int.reducePow, Nat.reduceLeDiff, Int.reduceLE, Nat.reduceMul, Nat.reduceSub, slotsSub]
      try simp
    clear hR hF hC2 hasc hlt hl20 ha hle
    clear R t' t
    rintro ⟨bs, L, nx3⟩ ⟨hx3, ⟨hb1, hb2⟩, R, t, rfl, hF, hasc, hlt, hlen, hC⟩
    simp only at hx3 hb1 hb2 hF hasc hlt hlen hC
    simp only [go_sem, Nat.reduceAdd, Nat.reduceEqDiff, Nat.reduceLT, reduceIte, reduceCtorEq, Nat.reduceBEq, Int.reduceLT, Int.reduceToNat, Int.reducePow, Nat.reduceLeDiff, Int.reduceLE, Nat.reduceMul, Nat.reduceSub]
    by_cases hbn : bs < n
    · have e2 : decide ((bs : Int) < (n : Int)) = true := dec_lt hbn
      have w2 : IntKind.i64.wrap (2 * (bs : Int)) = ((0 + 2 * bs : Nat) : Int) := by rw [wrap_i64 _ (by omega) (by omega)]; omega
      have w2' : IntKind.i64.wrap (2 * (bs : Int)) = ((2 * bs : Nat) : Int) := by rw [wrap_i64 _ (by omega) (by omega)]; omega
      have w3 : IntKind.i64.wrap ((bs : Int) * 2) = ((2 * bs : Nat) : Int) := by rw [wrap_i64 _ (by omega) (by omega)]; omega
      simp only [e2, go_sem, Nat.reduceAdd, Nat.reduceEqDiff, Nat.reduceLT, reduceIte, reduceCtorEq, Nat.reduceBEq, Int.reduceLT, Int.reduceToNat, Int.reducePow, Nat.reduceLeDiff, Int.reduceLE, Nat.reduceMul, Nat.reduceSub]
      refine loop_by (α := Nat × List Int × Nat) (fun v => ⟨[(0, some (ifc X n)), (1, some (.lit (.int .i64 (n : Int)))), (4, some (.lit (.int .i64 ((bs : Nat) : Int)))), (5, some (.lit (.int .i64 ((v.1 : Nat) : Int)))), (6, some (.lit (.int .i64 ((v.1 + 2 * bs : Nat) : Int))))], St X Y v.2.1, [], v.2.2⟩)
        (fun v => 2 ≤ v.2.2 ∧ ∃ C R t, v.2.1 = C.flatten ++ (R.flatten ++ t) ∧ C.flatten.length = v.1 ∧ Fl (2 * bs) C ∧ Fl bs R ∧ Asc cls t ∧ t.length < bs ∧ v.1 + (R.flatten.length + t.length) = n ∧ canon cls v.2.1 = canon cls D) (fun v => n - v.1) (fun v w h => by
          have h1 := congrArg (cnt 5) h
          simp [cnt, Ab.look] at h1
          rw [h1]) (0, R.flatten ++ t, nx3) (weak_forget ?_ (List.Sublist.refl _) (List.Sublist.refl _)) ⟨hx3, [], R, t, by simp, rfl, by intro x hx; simp at hx, hF, hasc, hlt, by simpa using hlen, hC⟩ ?_
      · simp only [w2, go_sem, Nat.reduceAdd, Nat.reduceEqDiff, Nat.reduceLT, reduceIte, reduceCtorEq, Nat.reduceBEq, Int.reduceLT, Int.reduceToNat, Int.reducePow, Nat.reduceLeDiff, Int.reduceLE, Nat.reduceMul, Nat.reduceSub, slotsSub]
        try simp
      clear hF hasc hlt hlen hC
      clear R t
      rintro ⟨a, L, nx4⟩ ⟨hx4, C, R, t, rfl, hCl, hFC, hF, hasc, hlt, hlen, hC⟩
      simp only at hx4 hCl hFC hF hasc hlt hlen hC
      have hpos := canon_pos hC hp
      have hRl := fl_length hF
      simp only [go_sem, Nat.reduceAdd, Nat.reduceEqDiff, Nat.reduceLT, reduceIte, reduceCtorEq, Nat.reduceBEq, Int.reduceLT, Int.reduceToNat, Int.reducePow, Nat.reduceLeDiff, Int.reduceLE, Nat.reduceMul, Nat.reduceSub]
      by_cases hle : a + 2 * bs ≤ n
      · obtain ⟨A, B, R', rfl⟩ : ∃ A B R', R = A :: B :: R' := by
          rcases R with _ | ⟨A, _ | ⟨B, R'⟩⟩
          · simp only [List.flatten_nil, List.length_nil] at hlen; omega
          · simp only [List.length_cons, List.length_nil] at hRl; omega
          · exact ⟨A, B, R', rfl⟩
        have hA := hF A (by simp)
        have hB := hF B (by simp)
        have hF' : Fl bs R' := fun x hx => hF x (by simp [hx])
        have e3 : decide (((a + 2 * bs : Nat) : Int) ≤ (n : Int)) = true := by simp only [decide_eq_true_eq]; omega
        have w4 : IntKind.i64.wrap ((a : Int) + (bs : Int)) = ((a + bs : Nat) : Int) := by rw [wrap_i64 _ (by omega) (by omega)]; omega
        have w5 : IntKind.i64.wrap (((a + 2 * bs : Nat) : Int) + ((2 * bs : Nat) : Int)) = ((a + 2 * bs + 2 * bs : Nat) : Int) := by rw [wrap_i64 _ (by omega) (by omega)]; omega
        have hpAB : ∀ x ∈ A ++ B, 0 < cls x := fun x hx => hpos x (by
          rcases List.mem_append.1 hx with hx | hx <;> simp [hx])
        have hsp : C.flatten ++ ((A :: B :: R').flatten ++ t) = C.flatten ++ A ++ B ++ (R'.flatten ++ t) := by simp
        simp only [List.flatten_cons, List.length_append] at hlen
        simp only [e3, w4, go_sem, Nat.reduceAdd, Nat.reduceEqDiff, Nat.reduceLT, reduceIte, reduceCtorEq, Nat.reduceBEq, Int.reduceLT, Int.reduceToNat, Int.reducePow, Nat.reduceLeDiff, Int.reduceLE, Nat.reduceMul, Nat.reduceSub]
        rw [hsp]
        refine callGo_ok (symMerge_ok X Y (by omega) _ C.flatten A B (R'.flatten ++ t) a (a + bs) (a + 2 * bs) nx4 _ (Nat.le_refl _) (by simp only [List.length_append]; omega) hCl (by omega) (by omega) (by omega) (by omega) hA.1 hB.1 hpAB hx4 fun r nx5 hx5 => ?_)
        simp only [w2', w5, go_sem, Nat.reduceAdd, Nat.reduceEqDiff, Nat.reduceLT, reduceIte, reduceCtorEq, Nat.reduceBEq, Int.reduceLT, Int.reduceToNat, Int.reducePow, Nat.reduceLeDiff, Int.reduceLE, Nat.reduceMul, Nat.reduceSub]
        refine ⟨(a + 2 * bs, C.flatten ++ canon cls (A ++ B) ++ (R'.flatten ++ t), nx5), weak_forget ?_ (List.Sublist.refl _) (List.Sublist.refl _), ⟨hx5, C ++ [canon cls (A ++ B)], R', t, by simp, ?_, ?_, hF', hasc, hlt, by simp only; omega, ?_⟩, by simp only; omega⟩
        · simp only [go_sem, Nat.reduceAdd, Nat.reduceEqDiff, Nat.reduceLT, reduceIte, reduceCtorEq, Nat.reduceBEq, Int.reduceLT, Int.reduceToNat, Int.reducePow, Nat.reduceLeDiff, Int.reduceLE, Nat.reduceMul, Nat.reduceSub, slotsSub]
        · simp only [List.flatten_append, List.flatten_cons, List.flatten_nil, List.append_nil, List.length_append, canon_length]; omega
        · exact fl_snoc hFC (canon_asc cls hpAB) (by rw [canon_length]; simp; omega)
        · rw [canon_part, ← hC, hsp]; simp
      · have e3 : decide (((a + 2 * bs : Nat) : Int) ≤ (n : Int)) = false := by simp only [decide_eq_false_iff_not]; omega
        have w4 : IntKind.i64.wrap ((a : Int) + (bs : Int)) = ((a + bs : Nat) : Int) := by rw [wrap_i64 _ (by omega) (by omega)]; omega
        simp only [e3, w4, go_sem, Nat.reduceAdd, Nat.reduceEqDiff, Nat.reduceLT, reduceIte, reduceCtorEq, Nat.reduceBEq, Int.reduceLT, Int.reduceToNat, Int.reducePow, Nat.reduceLeDiff, Int.reduceLE, Nat.reduceMul, Nat.reduceSub]
        by_cases hm : a + bs < n
        · obtain ⟨A, rfl⟩ : ∃ A, R = [A] := by
            rcases R with _ | ⟨A, _ | ⟨B, R'⟩⟩
            · simp only [List.flatten_nil, List.length_nil] at hlen; omega
            · exact ⟨A, rfl⟩
            · simp only [List.length_cons] at hRl
              rw [Nat.mul_add, Nat.mul_add] at hRl
              omega
          have hA := hF A (by simp)
          simp only [List.flatten_cons, List.flatten_nil, List.append_nil] at hlen hRl hC hpos ⊢
          have e4 : decide (((a + bs : Nat) : Int) < (n : Int)) = true := dec_lt hm
          have hpAt : ∀ x ∈ A ++ t, 0 < cls x := fun x hx => hpos x (by
            rcases List.mem_append.1 hx with hx | hx <;> simp [hx])
          simp only [e4, go_sem, Nat.reduceAdd, Nat.reduceEqDiff, Nat.reduceLT, reduceIte, reduceCtorEq, Nat.reduceBEq, Int.reduceLT, Int.reduceToNat, Int.reducePow, Nat.reduceLeDiff, Int.reduceLE, Nat.reduceMul, Nat.reduceSub]
          rw [show C.flatten ++ (A ++ t) = C.flatten ++ A ++ t ++ [] by simp]
          refine callGo_ok (symMerge_ok X Y (by omega) _ C.flatten A t [] a (a + bs) n nx4 _ (Nat.le_refl _) (by simp only [List.length_append, List.length_nil]; omega) hCl (by omega) (by omega) (by omega) (by omega) hA.1 hasc hpAt hx4 fun r nx5 hx5 => ?_)
          simp only [w3, go_sem, Nat.reduceAdd, Nat.reduceEqDiff, Nat.reduceLT, reduceIte, reduceCtorEq, Nat.reduceBEq, Int.reduceLT, Int.reduceToNat, Int.reducePow, Nat.reduceLeDiff, Int.reduceLE, Nat.reduceMul, Nat.reduceSub]
          refine ⟨(2 * bs, C.flatten ++ canon cls (A ++ t), nx5), ?_, ⟨hx5, by simp only; omega, C, canon cls (A ++ t), rfl, hFC, canon_asc cls hpAt, ?_, ?_, ?_⟩, by simp only; omega⟩
          · refine weak_forget ?_ (List.Sublist.refl _) (List.Sublist.refl _)
            simp only [go_sem, Nat.reduceAdd, Nat.reduceEqDiff, Nat.reduceLT, reduceIte, reduceCtorEq, Nat.reduceBEq, Int.reduceLT, Int.reduceToNat, Int.reducePow, Nat.reduceLeDiff, Int.reduceLE, Nat.reduceMul, Nat.reduceSub, slotsSub]
          · rw [canon_length]; simp only [List.length_append]; omega
          · rw [canon_length]; simp only [List.length_append]; omega
          · rw [← hC]; exact canon_right cls (canon_idem cls _)
        · have e4 : decide (((a + bs : Nat) : Int) < (n : Int)) = false := dec_nlt hm
          simp only [e4, w3, go_sem, Nat.reduceAdd, Nat.reduceEqDiff, Nat.reduceLT, reduceIte, reduceCtorEq, Nat.reduceBEq, Int.reduceLT, Int.reduceToNat, Int.reducePow, Nat.reduceLeDiff, Int.reduceLE, Nat.reduceMul, Nat.reduceSub]
          refine ⟨(2 * bs, C.flatten ++ (R.flatten ++ t), nx4), weak_forget ?_ (List.Sublist.refl _) (List.Sublist.refl _), ⟨hx4, by simp only; omega, C, R.flatten ++ t, rfl, hFC, ?_, by simp only [List.length_append]; omega, by simp only [List.length_append]; omega, hC⟩, by simp only; omega⟩
          · simp only [go_sem, Nat.reduceAdd, Nat.reduceEqDiff, Nat.reduceLT, reduceIte, reduceCtorEq, Nat.reduceBEq, Int.reduceLT, Int.reduceToNat, Int.reducePow, Nat.reduceLeDiff, Int.reduceLE, Nat.reduceMul, Nat.reduceSub, slotsSub]
          · rcases R with _ | ⟨A, _ | ⟨B, R'⟩⟩
            · simpa using hasc
            · simp only [List.length_cons, List.length_nil] at hRl
              have ht0 : t = [] := List.length_eq_zero_iff.1 (by omega)
              rw [ht0]
              simpa using (hF A (by simp)).1
            · simp only [List.length_cons] at hRl
              rw [Nat.mul_add, Nat.mul_add] at hRl
              omega
    · have e2 : decide ((bs : Int) < (n : Int)) = false := dec_nlt hbn
      have hRl := fl_length hF
      have hfin : Asc cls (R.flatten ++ t) := by
        rcases R with _ | ⟨A, _ | ⟨B, R'⟩⟩
        · simpa using hasc
        · simp only [List.length_cons, List.length_nil] at hRl
          have ht0 : t = [] := List.length_eq_zero_iff.1 (by omega)
          rw [ht0]
          simpa using (hF A (by simp)).1
        · simp only [List.length_cons] at hRl
          rw [Nat.mul_add, Nat.mul_add] at hRl
          omega
      simp only [e2, go_sem, Nat.reduceAdd, Nat.reduceEqDiff, Nat.reduceLT, reduceIte, reduceCtorEq, Nat.reduceBEq, Int.reduceLT, Int.reduceToNat, Int.reducePow, Nat.reduceLeDiff, Int.reduceLE, Nat.reduceMul, Nat.reduceSub]
      rw [show R.flatten ++ t = canon cls D by rw [← hC, canon_of_asc cls hfin]]
      exact ⟨.inl trivial, _, rfl, hK _ _ hx3⟩

set_option maxRecDepth 10000 in
theorem Stable_ok (X Y D : List Int) {n nx : Nat} (hL : D.length = n) (hp : ∀ x ∈ D, 0 < cls x) (hn : n ≤ 1000000) (hnx : 2 ≤ nx)
    {K : AV → List (Nat × List AV) → List (Nat × TypeId) → Nat → Prop} (hK : ∀ r nx', 2 ≤ nx' → K r (St X Y (canon cls D)) [] nx') :
    CallOK Try.prog 87 [ifc X n] (St X Y D) [] nx K := by
  refine callOK_walk Try.func87 c87 n87 e87 r87 (by simp) ?_
  simp only [a87, astart, argSlots, go_sem, Nat.reduceAdd, Nat.reduceEqDiff, Nat.reduceLT, reduceIte, reduceCtorEq, Nat.reduceBEq, Int.reduceLT, Int.reduceToNat, Int.reducePow, Nat.reduceLeDiff, Int.reduceLE, Nat.reduceMul, Nat.reduceSub]
  refine callGo_method is_len (len_ok X.length n (X ++ D ++ Y) hnx fun nx1 hx1 => ?_)
  simp only [go_sem, Nat.reduceAdd, Nat.reduceEqDiff, Nat.reduceLT, reduceIte, reduceCtorEq, Nat.reduceBEq, Int.reduceLT, Int.reduceToNat, Int.reducePow, Nat.reduceLeDiff, Int.reduceLE, Nat.reduceMul, Nat.reduceSub]
  refine callGo_ok (stable_ok X Y D hL hp hn hx1 fun r nx2 hx2 => ?_)
  simp only [go_sem, Nat.reduceAdd, Nat.reduceEqDiff, Nat.reduceLT, reduceIte, reduceCtorEq, Nat.reduceBEq, Int.reduceLT, Int.reduceToNat, Int.reducePow, Nat.reduceLeDiff, Int.reduceLE, Nat.reduceMul, Nat.reduceSub]
  exact ⟨.inl trivial, _, rfl, hK _ _ hx2⟩
end Go.Proofs.Ytmhpjoadfgplgaa
