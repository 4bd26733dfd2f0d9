/-
Rows put together, by the program. Conditions: none.
-/
import Derived.Test.YtmhpjoadfgplgaaNrmB
set_option linter.unusedSimpArgs false
set_option linter.unusedVariables false
set_option linter.unusedSectionVars false
namespace Go.Proofs.Ytmhpjoadfgplgaa
open Go Go.Ab
def a28_at62 : ACode :=
  (.seq (.seq (.reg [⟨(.some 62), (.mv (.t 4)), .none⟩, ⟨(.some 63), (.mv (.t 9)), .none⟩, ⟨(.some 64), (.ia 3 (.t 62) (.t 63)), .none⟩, ⟨(.some 65), (.ld .none (.t 64)), .none⟩, ⟨(.some 66), (.bin .eql
  (.t 65) (.k (.int .i64 0))), .none⟩]) (.cond (.t 66) (.reg [⟨(.some 67), (.mv (.t 6)), .none⟩, ⟨(.some 68), (.len (.t 67)), .none⟩, ⟨(.some 7), (.mv (.t 68)), .none⟩]) .skip)) (.dtr (.one ⟨(.some 69),
  (.mv (.t 6)), .none⟩ (.one ⟨(.some 70), (.mv (.t 10)), .none⟩ (.one ⟨(.some 71), (.bs0 21 1 [(.t 70)]), .none⟩ (.one ⟨(.some 72), (.app 21 4 (.t 69) (.t 71)), .none⟩ (.one ⟨(.some 73), (.mv (.t 4)),
  .none⟩ (.one ⟨(.some 74), (.mv (.t 9)), .none⟩ (.one ⟨(.some 75), (.ia 3 (.t 73) (.t 74)), .none⟩ (.one ⟨(.some 76), (.lde .none (.t 75)), .none⟩ (.one ⟨(.some 6), (.mv (.t 72)), .none⟩ (.one ⟨(.some
  8), (.mv (.t 76)), .none⟩ .leaf))))))))))))
def a28_L0 : ACode :=
  (.seq (.reg [⟨(.some 25), (.bin .lss (.t 24) (.t 23)), .none⟩]) (.seq (.cond (.t 25) .skip (.exit 0)) (.seq (.block 1 (.seq (.reg [⟨(.some 26), (.mv (.t 24)), .none⟩, ⟨(.some 27), (.ia 21 (.t 22) (.t
  24)), .none⟩, ⟨(.some 28), (.ld .none (.t 27)), .none⟩, ⟨(.some 9), (.mv (.t 26)), .none⟩, ⟨(.some 10), (.mv (.t 28)), .none⟩]) (.seq (.seq (.reg [⟨(.some 29), (.mv (.t 7)), .none⟩, ⟨(.some 30), (.bin
  .geq (.t 29) (.k (.int .i64 0))), .none⟩, ⟨(.some 31), (.mv (.t 30)), .none⟩, ⟨(.some 32), (.mv (.t 8)), (.some (31, true))⟩, ⟨(.some 33), (.mv (.t 4)), (.some (31, true))⟩, ⟨(.some 34), (.mv (.t 9)),
  (.some (31, true))⟩, ⟨(.some 35), (.ia 3 (.t 33) (.t 34)), (.some (31, true))⟩, ⟨(.some 36), (.ld .none (.t 35)), (.some (31, true))⟩, ⟨(.some 37), (.bin .lss (.t 32) (.t 36)), (.some (31, true))⟩,
  ⟨(.some 38), (.mv (.t 37)), (.some (31, true))⟩, ⟨(.some 39), (.mv (.t 7)), (.some (38, false))⟩, ⟨(.some 40), (.mv (.t 6)), (.some (38, false))⟩, ⟨(.some 41), (.len (.t 40)), (.some (38, false))⟩,
  ⟨(.some 42), (.bin .sub (.t 41) (.k (.int .i64 1))), (.some (38, false))⟩, ⟨(.some 43), (.bin .eql (.t 39) (.t 42)), (.some (38, false))⟩, ⟨(.some 44), (.pick (.t 38) (.k (.bool true)) (.t 43)),
  (.some (31, true))⟩, ⟨(.some 45), (.pick (.t 31) (.t 44) (.k (.bool false))), .none⟩]) (.cond (.t 45) (.seq (.reg [⟨(.some 47), (.mv (.t 6)), .none⟩, ⟨(.some 48), (.mv (.t 7)), .none⟩, ⟨(.some 49),
  (.ia 21 (.t 47) (.t 48)), .none⟩, ⟨(.some 50), (.ld .none (.t 49)), .none⟩, ⟨(.some 51), (.mv (.t 10)), .none⟩, ⟨(.some 52), (.bd [(.int .i32 0), (.int .i32 0)] [(0, (1, (.t 50))), (1, (1, (.t
  51)))]), .none⟩, ⟨(.some 53), (.mv (.t 5)), .none⟩, ⟨(.some 54), (.call (.f 67) [(.t 52), (.t 53)]), .none⟩, ⟨(.some 46), (.mv (.t 54)), .none⟩, ⟨(.some 55), (.ext (.t 46) 0), .none⟩, ⟨(.some 56),
  (.ext (.t 46) 1), .none⟩, ⟨(.some 11), (.mv (.t 55)), .none⟩, ⟨(.some 12), (.mv (.t 56)), .none⟩]) (.seq (.reg [⟨(.some 57), (.mv (.t 12)), .none⟩]) (.cond (.t 57) (.seq (.reg [⟨(.some 58), (.mv (.t
  6)), .none⟩, ⟨(.some 59), (.mv (.t 7)), .none⟩, ⟨(.some 60), (.mv (.t 11)), .none⟩, ⟨(.some 61), (.ia 21 (.t 58) (.t 59)), .none⟩, ⟨.none, (.st 1 (.t 61) (.t 60)), .none⟩]) (.exit 1)) .skip))) .skip))
  a28_at62))) (.reg [⟨(.some 77), (.bin .add (.t 24) (.k (.int .i64 1))), .none⟩, ⟨(.some 24), (.mv (.t 77)), .none⟩]))))
def a28 : ACode :=
  (.seq (.reg [⟨(.some 2), (.mv (.k (.slice .none 0 0))), .none⟩]) (.seq (.reg [⟨(.some 14), (.mv (.t 0)), .none⟩, ⟨(.some 15), (.call (.f 58) [(.t 14)]), .none⟩, ⟨(.some 13), (.mv (.t 15)), .none⟩,
  ⟨(.some 16), (.ext (.t 13) 0), .none⟩, ⟨(.some 17), (.ext (.t 13) 1), .none⟩, ⟨(.some 3), (.mv (.t 16)), .none⟩, ⟨(.some 4), (.mv (.t 17)), .none⟩]) (.seq (.reg [⟨(.some 18), (.call (.f 66) []),
  .none⟩, ⟨(.some 5), (.mv (.t 18)), .none⟩]) (.seq (.reg [⟨(.some 19), (.mv (.t 3)), .none⟩, ⟨(.some 20), (.len (.t 19)), .none⟩, ⟨(.some 21), (.xe (.mks 21 1 4 [(.int .i32 0)]) [(.k (.int .i64 0)),
  (.t 20)]), .none⟩, ⟨(.some 6), (.mv (.t 21)), .none⟩]) (.seq (.reg [⟨(.some 7), (.mv (.k (.int .i64 (-1)))), .none⟩, ⟨(.some 8), (.mv (.k (.int .i64 0))), .none⟩]) (.seq (.seq (.reg [⟨(.some 22), (.mv
  (.t 3)), .none⟩, ⟨(.some 23), (.len (.t 22)), .none⟩, ⟨(.some 24), (.mv (.k (.int .i64 0))), .none⟩]) (.block 0 (.loop a28_L0))) (.seq (.reg [⟨(.some 78), (.mv (.t 6)), .none⟩, ⟨(.some 2), (.mv (.t
  78)), .none⟩]) .ret)))))))
theorem c28 : Try.f28.body.bind (cCode Try.prog 79) = some a28 := by kernel_rfl
theorem r28 : Try.f28.results.toList = [(.tmp 2)] := by kernel_rfl
theorem n28 : Try.f28.ntmps = 79 := by kernel_rfl
theorem e28 : Enters Try.prog 28 := enters_of Try.func28 (by kernel_rfl) (by kernel_rfl)

/-- How far a row is put together: what stands there, where the last starter is, and the class of what was put last. -/
def Cst (D : List Int) (i : Nat) (out : List Int) (start : Int) (last : Nat) : Prop :=
  (start = -1 ∧ (∀ y ∈ out, 0 < cls y) ∧ Good cls (D.drop i) ∧ comp0 T cls [] D = comp0 T cls out (D.drop i)) ∨
  ∃ a s t, out = a ++ s :: t ∧ start = (a.length : Int) ∧ cls s = 0 ∧ (∀ y ∈ t, 0 < cls y) ∧ Good cls (t ++ D.drop i) ∧ (t ≠ [] → ∃ t' y, t = t' ++ [y] ∧ last = cls y) ∧ comp0 T cls [] D = compS T cls a s t (D.drop i)

theorem comp0_cons (t : List Int) (c : Int) (rest : List Int) : comp0 T cls t (c :: rest) = if cls c = 0 then compS T cls t c [] rest else comp0 T cls (t ++ [c]) rest := by rw [comp0]
theorem compS_join {a : List Int} {s : Int} {t : List Int} {c m : Int} {rest : List Int} (h : (if t.all (fun y => decide (cls y < cls c)) = true then joinP T s c else none) = some m) : compS T cls a s t (c :: rest) = compS T cls a m t rest := by
  rw [compS, h]
theorem compS_put {a : List Int} {s : Int} {t : List Int} {c : Int} {rest : List Int} (h : (if t.all (fun y => decide (cls y < cls c)) = true then joinP T s c else none) = none) :
    compS T cls a s t (c :: rest) = if cls c = 0 then compS T cls (a ++ s :: t) c [] rest else compS T cls a s (t ++ [c]) rest := by
  rw [compS, h]
theorem good_drop {t : List Int} {c : Int} {rest : List Int} (h : Good cls (t ++ c :: rest)) (hf : ∀ y ∈ t, cls y < cls c) : Good cls (t ++ rest) := by
  induction t with
  | nil => exact h.2
  | cons x t ih =>
    refine ⟨?_, ih h.2 fun y hy => hf y (by simp [hy])⟩
    cases t with
    | nil =>
      cases rest with
      | nil => trivial
      | cons r rest =>
        have h1 := h.2.1
        have h2 := hf x (by simp)
        change ¬(0 < cls r ∧ cls r < cls c) at h1
        change ¬(0 < cls r ∧ cls r < cls x)
        omega
    | cons z t => exact h.1
theorem all_last {t' : List Int} {y c : Int} (hp : ∀ z ∈ t' ++ [y], 0 < cls z) (hg : Good cls (t' ++ [y])) : ((t' ++ [y]).all fun z => decide (cls z < cls c)) = decide (cls y < cls c) := by
  have ha := Good.asc cls hp hg
  rw [asc_append] at ha
  rw [Bool.eq_iff_iff, List.all_eq_true]
  simp only [decide_eq_true_eq]
  constructor
  · intro h; exact h y (by simp)
  · intro h z hz
    rcases List.mem_append.1 hz with hz | hz
    · exact Nat.lt_of_le_of_lt (ha.2.2 z hz y (by simp)) h
    · simp only [List.mem_cons, List.not_mem_nil, or_false] at hz
      subst hz; exact h
theorem split_i32 (r : Int) (hr : -2147483648 ≤ r ∧ r ≤ 2147483647) : ∀ x ∈ splitP T r, -2147483648 ≤ x ∧ x ≤ 2147483647 := by
  have deep : ∀ a : Int, (-2147483648 ≤ a ∧ a ≤ 2147483647) → ∀ x ∈ deepP T a, -2147483648 ≤ x ∧ x ≤ 2147483647 := by
    intro a ha x hx
    unfold deepP at hx
    split at hx
    · simp only [List.mem_cons, List.not_mem_nil, or_false] at hx
      subst hx; exact ha
    · rename_i p hp
      have hm := oneP_mem nf (show oneP T a = some (p.1, p.2) from hp)
      obtain ⟨i, hi, he⟩ := List.mem_iff_getElem.1 hm
      have := (deep_at hi).2.1
      rw [he] at this
      simp only [List.mem_cons, List.not_mem_nil, or_false] at hx
      rcases hx with rfl | rfl
      · exact ⟨Int.le_trans (by decide) this.2.2.1, Int.le_trans this.2.2.2.1 (by decide)⟩
      · exact ⟨Int.le_trans (by decide) this.2.2.2.2.1, Int.le_trans this.2.2.2.2.2 (by decide)⟩
  intro x hx
  unfold splitP at hx
  split at hx
  · rename_i hs
    rw [isSyl_iff] at hs
    have := sylP_mem nf (by omega) (by omega) hx
    omega
  · split at hx
    · simp only [List.mem_cons, List.not_mem_nil, or_false] at hx; omega
    · split at hx
      · simp only [List.mem_cons, List.not_mem_nil, or_false] at hx; omega
      · split at hx
        · simp only [List.mem_cons, List.not_mem_nil, or_false] at hx; omega
        · rename_i p hp
          have hm := oneP_mem nf (show oneP T r = some (p.1, p.2) from hp)
          obtain ⟨i, hi, he⟩ := List.mem_iff_getElem.1 hm
          have := (deep_at hi).2.1
          rw [he] at this
          rcases List.mem_append.1 hx with hx | hx
          · exact deep _ ⟨Int.le_trans (by decide) this.2.2.1, Int.le_trans this.2.2.2.1 (by decide)⟩ x hx
          · simp only [List.mem_cons, List.not_mem_nil, or_false] at hx
            subst hx
            exact ⟨Int.le_trans (by decide) this.2.2.2.2.1, Int.le_trans this.2.2.2.2.2 (by decide)⟩
theorem nfd_i32 {l : List Int} (h : I32 l) : I32 (nfdP T cls l) := by
  intro x hx
  have hx' := (canon_mem cls).1 hx
  obtain ⟨r, hr, hx2⟩ := List.mem_flatMap.1 hx'
  have hr' := h r hr
  rcases split_cases nf r with h1 | h1
  · rw [h1] at hx2
    simp only [List.mem_cons, List.not_mem_nil, or_false] at hx2
    subst hx2; exact hr'
  · exact split_i32 r hr' x hx2
theorem joined_i32 {a b m : Int} (ha : -2147483648 ≤ a ∧ a ≤ 2147483647) (hb : -2147483648 ≤ b ∧ b ≤ 2147483647) (h : joinP T a b = some m) : -2147483648 ≤ m ∧ m ≤ 2147483647 := by
  unfold joinP at h
  split at h
  · simp only [Option.some.injEq] at h; omega
  · split at h
    · simp only [Option.some.injEq] at h; omega
    · cases hf : T.find? (fun p => p.2.1 == a && p.2.2 == b) with
      | none => rw [hf] at h; cases h
      | some p =>
        rw [hf] at h
        simp only [Option.map_some, Option.some.injEq] at h
        obtain ⟨i, hi, rfl⟩ := List.mem_iff_getElem.1 (List.mem_of_find?_eq_some hf)
        have := (deep_at hi).2.1
        rw [h] at this
        omega

/-- The states of the loop. -/
def cSt (D : List Int) (i : Nat) (out : List Int) (start : Int) (last t nx : Nat) : State :=
  ⟨[(22, some (rS D none)), (23, some (.lit (.int .i64 (D.length : Int)))), (24, some (.lit (.int .i64 (i : Int)))), (4, some (.sl 3 (kS D) none)), (5, some (.vx (.map T.length) (mC T))), (6, some (.rf (.row 21 1 0 out.length) t)), (7, some (.lit (.int .i64 start))), (8, some (.lit (.int .i64 (last : Int))))], [(t, cX out)], [], nx⟩

/-- What the loop keeps. -/
def Keeps (D : List Int) (i : Nat) (out : List Int) (start : Int) (last t : Nat) (sl : List (Nat × Option AV)) : Prop :=
  (Ab.look sl 22 = some (rS D none) ∧ Ab.look sl 23 = some (.lit (.int .i64 (D.length : Int))) ∧ Ab.look sl 24 = some (.lit (.int .i64 (i : Int))) ∧ Ab.look sl 4 = some (.sl 3 (kS D) none) ∧ Ab.look sl 5 = some (.vx (.map T.length) (mC T))) ∧
  (Ab.look sl 6 = some (.rf (.row 21 1 0 out.length) t) ∧ Ab.look sl 7 = some (.lit (.int .i64 start)) ∧ Ab.look sl 8 = some (.lit (.int .i64 (last : Int))))

set_option maxRecDepth 10000 in
set_option maxHeartbeats 4000000 in
theorem put_ok {D : List Int} {i : Nat} (hi : i < D.length) {out : List Int} (hol : out.length ≤ 10000) {start : Int} {last t nx : Nat} (htn : t < nx) {sl : List (Nat × Option AV)} {Q : Exit → State → Prop} (hk : Keeps D i out start last t sl) (h9 : Ab.look sl 9 = some (.lit (.int .i64 (i : Int)))) (h10 : Ab.look sl 10 = some (.lit (.int .i32 D[i])))
    (hQ : ∀ sl' nx', nx < nx' → Keeps D i (out ++ [D[i]]) (if cls D[i] = 0 then (out.length : Int) else start) (cls D[i]) nx sl' → Q .normal ⟨sl', [(nx, cX (out ++ [D[i]]))], [], nx'⟩) :
    awp Try.prog 0 a28_at62 Q ⟨sl, [(t, cX out)], [], nx⟩ := by
  obtain ⟨⟨k22, k23, k24, k4, k5⟩, k6, k7, k8⟩ := hk
  have r1 := fun tp tt => app_row (bx := [(t, cX out)]) (n := out.length) (id := t) tp 21 (.int .i32 D[i]) tt (cells := cX out) (by simp only [unOb_cX, go_sem, Nat.reduceAdd, Nat.reduceEqDiff, Nat.reduceLT, reduceIte, reduceCtorEq, Nat.reduceBEq, Int.reduceLT, Int.reduceToNat, Int.reducePow, Nat.reduceLeDiff, Int.reduceLE, Nat.reduceMul, Nat.reduceSub]) (cX_length out)
  simp only [a28_at62, k4, h9, kS_length, hi, kS_at hi, go_sem, Nat.reduceAdd, Nat.reduceEqDiff, Nat.reduceLT, reduceIte, reduceCtorEq, Nat.reduceBEq, Int.reduceLT, Int.reduceToNat, Int.reducePow, Nat.reduceLeDiff, Int.reduceLE, Nat.reduceMul, Nat.reduceSub]
  by_cases hz : cls D[i] = 0
  · have e1 : (((cls D[i] : Nat) : Int) == 0) = true := by simp [hz]
    rw [if_pos hz] at hQ
    simp only [e1, k6, go_sem, Nat.reduceAdd, Nat.reduceEqDiff, Nat.reduceLT, reduceIte, reduceCtorEq, Nat.reduceBEq, Int.reduceLT, Int.reduceToNat, Int.reducePow, Nat.reduceLeDiff, Int.reduceLE, Nat.reduceMul, Nat.reduceSub]
    refine dtr_line ?_
    simp only [k4, k6, h9, h10, r1, cX_snoc, kS_length, hi, kS_at hi, go_sem, Nat.reduceAdd, Nat.reduceEqDiff, Nat.reduceLT, reduceIte, reduceCtorEq, Nat.reduceBEq, Int.reduceLT, Int.reduceToNat, Int.reducePow, Nat.reduceLeDiff, Int.reduceLE, Nat.reduceMul, Nat.reduceSub]
    refine ⟨by omega, hQ _ _ (Nat.lt_succ_self _) ⟨⟨?_, ?_, ?_, ?_, ?_⟩, ?_, ?_, ?_⟩⟩
    all_goals simp only [k22, k23, k24, k4, k5, List.length_append, go_sem, Nat.reduceAdd, Nat.reduceEqDiff, Nat.reduceLT, reduceIte, reduceCtorEq, Nat.reduceBEq, Int.reduceLT, Int.reduceToNat, Int.reducePow, Nat.reduceLeDiff, Int.reduceLE, Nat.reduceMul, Nat.reduceSub]
  · have e1 : (((cls D[i] : Nat) : Int) == 0) = false := by simp [hz]
    rw [if_neg hz] at hQ
    simp only [e1, k6, go_sem, Nat.reduceAdd, Nat.reduceEqDiff, Nat.reduceLT, reduceIte, reduceCtorEq, Nat.reduceBEq, Int.reduceLT, Int.reduceToNat, Int.reducePow, Nat.reduceLeDiff, Int.reduceLE, Nat.reduceMul, Nat.reduceSub]
    refine dtr_line ?_
    simp only [k4, k6, h9, h10, r1, cX_snoc, kS_length, hi, kS_at hi, go_sem, Nat.reduceAdd, Nat.reduceEqDiff, Nat.reduceLT, reduceIte, reduceCtorEq, Nat.reduceBEq, Int.reduceLT, Int.reduceToNat, Int.reducePow, Nat.reduceLeDiff, Int.reduceLE, Nat.reduceMul, Nat.reduceSub]
    refine ⟨by omega, hQ _ _ (Nat.lt_succ_self _) ⟨⟨?_, ?_, ?_, ?_, ?_⟩, ?_, ?_, ?_⟩⟩
    all_goals simp only [k22, k23, k24, k4, k5, k7, List.length_append, go_sem, Nat.reduceAdd, Nat.reduceEqDiff, Nat.reduceLT, reduceIte, reduceCtorEq, Nat.reduceBEq, Int.reduceLT, Int.reduceToNat, Int.reducePow, Nat.reduceLeDiff, Int.reduceLE, Nat.reduceMul, Nat.reduceSub]

theorem keeps_weak {D : List Int} {i : Nat} {out : List Int} {start : Int} {last t nx : Nat} {sl : List (Nat × Option AV)} (hk : Keeps D i out start last t sl) {d : List (Nat × Option AV)} (hd : ∀ v, d = [(24, some v), (77, some v)] → v = .lit (.int .i64 ((i + 1 : Nat) : Int)) → True) :
    Weak Try.prog 0 ⟨(24, some (.lit (.int .i64 ((i + 1 : Nat) : Int)))) :: (77, some (.lit (.int .i64 ((i + 1 : Nat) : Int)))) :: sl, [(t, cX out)], [], nx⟩ (cSt D (i + 1) out start last t nx) := by
  obtain ⟨⟨k22, k23, k24, k4, k5⟩, k6, k7, k8⟩ := hk
  refine weak_forget ?_ (List.Sublist.refl _) (List.Sublist.refl _)
  simp only [k22, k23, k4, k5, k6, k7, k8, go_sem, Nat.reduceAdd, Nat.reduceEqDiff, Nat.reduceLT, reduceIte, reduceCtorEq, Nat.reduceBEq, Int.reduceLT, Int.reduceToNat, Int.reducePow, Nat.reduceLeDiff, Int.reduceLE, Nat.reduceMul, Nat.reduceSub, slotsSub]

set_option maxRecDepth 10000 in
set_option maxHeartbeats 4000000 in
theorem NFC_loop {D : List Int} (hD : D.length ≤ 10000) (h32 : I32 D) (hg : Good cls D) {Q : Exit → State → Prop} {s : State} {t0 nx0 : Nat} (ht0 : t0 < nx0) (hw : Weak Try.prog 0 s (cSt D 0 [] (-1) 0 t0 nx0))
    (hQ : ∀ sl t nx, t < nx → Ab.look sl 6 = some (.rf (.row 21 1 0 (comp0 T cls [] D).length) t) → Q (.exit 0) ⟨sl, [(t, cX (comp0 T cls [] D))], [], nx⟩) : aloop Try.prog 0 (awp Try.prog 0 a28_L0) Q s := by
  refine loop_by (α := Nat × List Int × Int × Nat × Nat × Nat) (fun x => cSt D x.1 x.2.1 x.2.2.1 x.2.2.2.1 x.2.2.2.2.1 x.2.2.2.2.2)
    (fun x => x.1 ≤ D.length ∧ x.2.1.length ≤ x.1 ∧ x.2.2.2.2.1 < x.2.2.2.2.2 ∧ I32 x.2.1 ∧ x.2.2.2.1 ≤ 255 ∧ Cst D x.1 x.2.1 x.2.2.1 x.2.2.2.1) (fun x => D.length - x.1) (fun x y h => by
      have := congrArg (cnt 24) h
      simp [cnt, cSt, Ab.look] at this
      rw [this]) (0, [], -1, 0, t0, nx0) hw ⟨Nat.zero_le _, Nat.le_refl _, ht0, by intro x hx; simp at hx, by simp, .inl ⟨rfl, by simp, hg, rfl⟩⟩ ?_
  rintro ⟨i, out, start, last, t, nx⟩ ⟨hi, hol, htn, ho32, hl255, hC⟩
  simp only at hi hol htn ho32 hl255 hC
  simp only [cSt, a28_L0, go_sem, Nat.reduceAdd, Nat.reduceEqDiff, Nat.reduceLT, reduceIte, reduceCtorEq, Nat.reduceBEq, Int.reduceLT, Int.reduceToNat, Int.reducePow, Nat.reduceLeDiff, Int.reduceLE, Nat.reduceMul, Nat.reduceSub]
  rcases Nat.lt_or_eq_of_le hi with hlt | heq
  · have hw1 : IntKind.i64.wrap ((i : Int) + 1) = ((i + 1 : Nat) : Int) := by rw [wrap_i64 _ (by omega) (by omega)]; omega
    have hdr : D.drop i = D[i] :: D.drop (i + 1) := List.drop_eq_getElem_cons hlt
    have hc32 := h32 D[i] (List.getElem_mem hlt)
    have hcl := (ccc_eq D[i]).2
    have ho32' : I32 (out ++ [D[i]]) := by
      intro x hx
      rcases List.mem_append.1 hx with hx | hx
      · exact ho32 x hx
      · simp only [List.mem_cons, List.not_mem_nil, or_false] at hx
        subst hx; exact hc32
    have e0 : decide ((-1 : Int) ≥ 0) = false := rfl
    have hol' : (out ++ [D[i]]).length ≤ i + 1 := by simp; omega
    rcases hC with ⟨rfl, hp, hgd, hcomp⟩ | ⟨a, s0, tt, rfl, rfl, hs0, hp, hgd, hlast, hcomp⟩
    · rw [hdr] at hgd hcomp
      simp only [dec_lt hlt, hlt, runes_at hlt, kS_at hlt, kS_length, runes_length, e0, go_sem, Nat.reduceAdd, Nat.reduceEqDiff, Nat.reduceLT, reduceIte, reduceCtorEq, Nat.reduceBEq, Int.reduceLT, Int.reduceToNat, Int.reducePow, Nat.reduceLeDiff, Int.reduceLE, Nat.reduceMul, Nat.reduceSub]
      refine put_ok hlt (by omega) htn (start := -1) (last := last) (by exact ⟨⟨by simp only [go_sem, Nat.reduceAdd, Nat.reduceEqDiff, Nat.reduceLT, reduceIte, reduceCtorEq, Nat.reduceBEq, Int.reduceLT, Int.reduceToNat, Int.reducePow, Nat.reduceLeDiff, Int.reduceLE, Nat.reduceMul, Nat.reduceSub], by simp only [go_sem, Nat.reduceAdd, Nat.reduceEqDiff, Nat.reduceLT, reduceIte, reduceCtorEq, Nat.reduceBEq, Int.reduceLT, Int.reduceToNat, Int.reducePow, Nat.reduceLeDiff, Int.reduceLE, Nat.reduceMul, Nat.reduceSub], by simp only [go_sem, Nat.reduceAdd, Nat.reduceEqDiff, Nat.reduceLT, reduceIte, reduceCtorEq, Nat.reduceBEq, Int.reduceLT, Int.reduceToNat, Int.reducePow, Nat.reduceLeDiff, Int.reduceLE, Nat.reduceMul, Nat.reduceSub], by simp only [go_sem, Nat.reduceAdd, Nat.reduceEqDiff, Nat.reduceLT, reduceIte, reduceCtorEq, Nat.reduceBEq, Int.reduceLT, Int.reduceToNat, Int.reducePow, Nat.reduceLeDiff, Int.reduceLE, Nat.reduceMul, Nat.reduceSub], by simp only [go_sem, Nat.reduceAdd, Nat.reduceEqDiff, Nat.reduceLT, reduceIte, reduceCtorEq, Nat.reduceBEq, Int.reduceLT, Int.reduceToNat, Int.reducePow, Nat.reduceLeDiff, Int.reduceLE, Nat.reduceMul, Nat.reduceSub]⟩, by simp only [go_sem, Nat.reduceAdd, Nat.reduceEqDiff, Nat.reduceLT, reduceIte, reduceCtorEq, Nat.reduceBEq, Int.reduceLT, Int.reduceToNat, Int.reducePow, Nat.reduceLeDiff, Int.reduceLE, Nat.reduceMul, Nat.reduceSub], by simp only [go_sem, Nat.reduceAdd, Nat.reduceEqDiff, Nat.reduceLT, reduceIte, reduceCtorEq, Nat.reduceBEq, Int.reduceLT, Int.reduceToNat, Int.reducePow, Nat.reduceLeDiff, Int.reduceLE, Nat.reduceMul, Nat.reduceSub], by simp only [go_sem, Nat.reduceAdd, Nat.reduceEqDiff, Nat.reduceLT, reduceIte, reduceCtorEq, Nat.reduceBEq, Int.reduceLT, Int.reduceToNat, Int.reducePow, Nat.reduceLeDiff, Int.reduceLE, Nat.reduceMul, Nat.reduceSub]⟩) (by simp only [go_sem, Nat.reduceAdd, Nat.reduceEqDiff, Nat.reduceLT, reduceIte, reduceCtorEq, Nat.reduceBEq, Int.reduceLT, Int.reduceToNat, Int.reducePow, Nat.reduceLeDiff, Int.reduceLE, Nat.reduceMul, Nat.reduceSub]) (by simp only [go_sem, Nat.reduceAdd, Nat.reduceEqDiff, Nat.reduceLT, reduceIte, reduceCtorEq, Nat.reduceBEq, Int.reduceLT, Int.reduceToNat, Int.reducePow, Nat.reduceLeDiff, Int.reduceLE, Nat.reduceMul, Nat.reduceSub]) ?_
      · intro sl' nx' hn hk
        have hk24 := hk.1.2.2.1
        simp only [hk24, hw1, go_sem, Nat.reduceAdd, Nat.reduceEqDiff, Nat.reduceLT, reduceIte, reduceCtorEq, Nat.reduceBEq, Int.reduceLT, Int.reduceToNat, Int.reducePow, Nat.reduceLeDiff, Int.reduceLE, Nat.reduceMul, Nat.reduceSub]
        refine ⟨(i + 1, out ++ [D[i]], (if cls D[i] = 0 then (out.length : Int) else -1), cls D[i], nx, nx'), keeps_weak (d := []) hk (fun _ _ _ => trivial), ⟨by simp only; omega, hol', hn, ho32', hcl, ?_⟩, by simp only; omega⟩
        rw [comp0_cons] at hcomp
        simp only
        by_cases hz : cls D[i] = 0
        · rw [if_pos hz] at hcomp ⊢
          exact .inr ⟨out, D[i], [], rfl, rfl, hz, by simp, hgd.2, fun h => absurd rfl h, hcomp⟩
        · rw [if_neg hz] at hcomp ⊢
          refine .inl ⟨rfl, fun y hy => ?_, hgd.2, hcomp⟩
          rcases List.mem_append.1 hy with hy | hy
          · exact hp y hy
          · simp only [List.mem_cons, List.not_mem_nil, or_false] at hy
            subst hy; omega
    · rw [hdr] at hgd hcomp
      have hgt : Good cls tt := Good.left cls hgd
      have hfree : (tt.all fun y => decide (cls y < cls D[i])) = (decide (last < cls D[i]) || decide (a.length + 1 = (a ++ s0 :: tt).length)) := by
        by_cases htt : tt = []
        · subst htt; simp
        · obtain ⟨t', y, rfl, rfl⟩ := hlast htt
          rw [all_last hp hgt]
          have : decide (a.length + 1 = (a ++ s0 :: (t' ++ [y])).length) = false := dec_no (by simp)
          rw [this, Bool.or_false]
      have hlen : (a ++ s0 :: tt).length = a.length + 1 + tt.length := by simp; omega
      have hs32 : -2147483648 ≤ s0 ∧ s0 ≤ 2147483647 := ho32 s0 (by simp)
      have w2 : IntKind.i64.wrap (((a ++ s0 :: tt).length : Int) - 1) = ((a.length + tt.length : Nat) : Int) := by rw [wrap_i64 _ (by omega) (by omega)]; omega
      have e9 : decide (((a.length : Nat) : Int) ≥ 0) = true := dec_nonneg _
      have gs : (cX (a ++ s0 :: tt))[a.length]? = some (.lit (.int .i32 s0)) := by
        rw [cX_get (by omega)]; simp
      have halt : a.length < (a ++ s0 :: tt).length := by omega
      -- what is put behind
      have fput : ∀ sl', Keeps D i (a ++ s0 :: tt) (a.length : Int) last t sl' → Ab.look sl' 9 = some (.lit (.int .i64 (i : Int))) → Ab.look sl' 10 = some (.lit (.int .i32 D[i])) →
          comp0 T cls [] D = (if cls D[i] = 0 then compS T cls (a ++ s0 :: tt) D[i] [] (D.drop (i + 1)) else compS T cls a s0 (tt ++ [D[i]]) (D.drop (i + 1))) → 
          ∀ (Q' : Exit → State → Prop), (∀ (sl1 : List (Nat × Option AV)) (nx' : Nat) (st1 : Int), Keeps D i (a ++ s0 :: tt ++ [D[i]]) st1 (cls D[i]) nx sl1 → nx < nx' → Cst D (i + 1) (a ++ s0 :: tt ++ [D[i]]) st1 (cls D[i]) → Q' .normal ⟨sl1, [(nx, cX (a ++ s0 :: tt ++ [D[i]]))], [], nx'⟩) →
          awp Try.prog 0 a28_at62 Q' ⟨sl', [(t, cX (a ++ s0 :: tt))], [], nx⟩ := by
        intro sl' hk h9 h10 hc Q' hQ'
        refine put_ok hlt (by omega) htn hk h9 h10 fun sl1 nx' hn hk1 => hQ' _ _ _ hk1 hn ?_
        by_cases hz : cls D[i] = 0
        · rw [if_pos hz] at hc ⊢
          exact .inr ⟨a ++ s0 :: tt, D[i], [], rfl, rfl, hz, by simp, (Good.right cls hgd).2, fun h => absurd rfl h, hc⟩
        · rw [if_neg hz] at hc ⊢
          refine .inr ⟨a, s0, tt ++ [D[i]], by simp, rfl, hs0, fun y hy => ?_, by simpa using hgd, fun _ => ⟨tt, D[i], rfl, rfl⟩, hc⟩
          rcases List.mem_append.1 hy with hy | hy
          · exact hp y hy
          · simp only [List.mem_cons, List.not_mem_nil, or_false] at hy
            subst hy; omega
      have hor : last < cls D[i] ∨ (¬ last < cls D[i] ∧ tt = []) ∨ (¬ last < cls D[i] ∧ tt ≠ []) := by
        by_cases h1 : last < cls D[i]
        · exact .inl h1
        · by_cases h2 : tt = []
          · exact .inr (.inl ⟨h1, h2⟩)
          · exact .inr (.inr ⟨h1, h2⟩)
      simp only [dec_lt hlt, hlt, runes_at hlt, kS_at hlt, kS_length, runes_length, e9, dec_cast, go_sem, Nat.reduceAdd, Nat.reduceEqDiff, Nat.reduceLT, reduceIte, reduceCtorEq, Nat.reduceBEq, Int.reduceLT, Int.reduceToNat, Int.reducePow, Nat.reduceLeDiff, Int.reduceLE, Nat.reduceMul, Nat.reduceSub]
      rcases hor with g1 | ⟨g1, g2⟩ | ⟨g1, g2⟩
      · have e1 := dec_of g1
        simp only [e1, halt, Nat.mul_one, unOb_cX, drop_get0, gs, go_sem, Nat.reduceAdd, Nat.reduceEqDiff, Nat.reduceLT, reduceIte, reduceCtorEq, Nat.reduceBEq, Int.reduceLT, Int.reduceToNat, Int.reducePow, Nat.reduceLeDiff, Int.reduceLE, Nat.reduceMul, Nat.reduceSub]
        have hfr : (tt.all fun y => decide (cls y < cls D[i])) = true := by rw [hfree, e1, Bool.true_or]
        refine callGo_pure (joined_pure hs32 hc32) (by simp [AV.eraseL, AV.erase, mC_erase]) ?_
        cases hj : joinP T s0 D[i] with
        | none =>
          simp only [joinE, go_sem, Nat.reduceAdd, Nat.reduceEqDiff, Nat.reduceLT, reduceIte, reduceCtorEq, Nat.reduceBEq, Int.reduceLT, Int.reduceToNat, Int.reducePow, Nat.reduceLeDiff, Int.reduceLE, Nat.reduceMul, Nat.reduceSub]
          refine fput _ (by exact ⟨⟨by simp only [go_sem, Nat.reduceAdd, Nat.reduceEqDiff, Nat.reduceLT, reduceIte, reduceCtorEq, Nat.reduceBEq, Int.reduceLT, Int.reduceToNat, Int.reducePow, Nat.reduceLeDiff, Int.reduceLE, Nat.reduceMul, Nat.reduceSub], by simp only [go_sem, Nat.reduceAdd, Nat.reduceEqDiff, Nat.reduceLT, reduceIte, reduceCtorEq, Nat.reduceBEq, Int.reduceLT, Int.reduceToNat, Int.reducePow, Nat.reduceLeDiff, Int.reduceLE, Nat.reduceMul, Nat.reduceSub], by simp only [go_sem, Nat.reduceAdd, Nat.reduceEqDiff, Nat.reduceLT, reduceIte, reduceCtorEq, Nat.reduceBEq, Int.reduceLT, Int.reduceToNat, Int.reducePow, Nat.reduceLeDiff, Int.reduceLE, Nat.reduceMul, Nat.reduceSub], by simp only [go_sem, Nat.reduceAdd, Nat.reduceEqDiff, Nat.reduceLT, reduceIte, reduceCtorEq, Nat.reduceBEq, Int.reduceLT, Int.reduceToNat, Int.reducePow, Nat.reduceLeDiff, Int.reduceLE, Nat.reduceMul, Nat.reduceSub], by simp only [go_sem, Nat.reduceAdd, Nat.reduceEqDiff, Nat.reduceLT, reduceIte, reduceCtorEq, Nat.reduceBEq, Int.reduceLT, Int.reduceToNat, Int.reducePow, Nat.reduceLeDiff, Int.reduceLE, Nat.reduceMul, Nat.reduceSub]⟩, by simp only [go_sem, Nat.reduceAdd, Nat.reduceEqDiff, Nat.reduceLT, reduceIte, reduceCtorEq, Nat.reduceBEq, Int.reduceLT, Int.reduceToNat, Int.reducePow, Nat.reduceLeDiff, Int.reduceLE, Nat.reduceMul, Nat.reduceSub], by simp only [go_sem, Nat.reduceAdd, Nat.reduceEqDiff, Nat.reduceLT, reduceIte, reduceCtorEq, Nat.reduceBEq, Int.reduceLT, Int.reduceToNat, Int.reducePow, Nat.reduceLeDiff, Int.reduceLE, Nat.reduceMul, Nat.reduceSub], by simp only [go_sem, Nat.reduceAdd, Nat.reduceEqDiff, Nat.reduceLT, reduceIte, reduceCtorEq, Nat.reduceBEq, Int.reduceLT, Int.reduceToNat, Int.reducePow, Nat.reduceLeDiff, Int.reduceLE, Nat.reduceMul, Nat.reduceSub]⟩) (by simp only [go_sem, Nat.reduceAdd, Nat.reduceEqDiff, Nat.reduceLT, reduceIte, reduceCtorEq, Nat.reduceBEq, Int.reduceLT, Int.reduceToNat, Int.reducePow, Nat.reduceLeDiff, Int.reduceLE, Nat.reduceMul, Nat.reduceSub]) (by simp only [go_sem, Nat.reduceAdd, Nat.reduceEqDiff, Nat.reduceLT, reduceIte, reduceCtorEq, Nat.reduceBEq, Int.reduceLT, Int.reduceToNat, Int.reducePow, Nat.reduceLeDiff, Int.reduceLE, Nat.reduceMul, Nat.reduceSub]) (by rw [hcomp, compS_put (by rw [if_pos hfr]; exact hj)]) _ ?_
          intro sl1 nx1 st1 hk hn hcs
          have hk24 := hk.1.2.2.1
          simp only [hk24, hw1, go_sem, Nat.reduceAdd, Nat.reduceEqDiff, Nat.reduceLT, reduceIte, reduceCtorEq, Nat.reduceBEq, Int.reduceLT, Int.reduceToNat, Int.reducePow, Nat.reduceLeDiff, Int.reduceLE, Nat.reduceMul, Nat.reduceSub]
          exact ⟨(i + 1, a ++ s0 :: tt ++ [D[i]], st1, cls D[i], nx, nx1), keeps_weak (d := []) hk (fun _ _ _ => trivial), ⟨by simp only; omega, hol', hn, ho32', hcl, hcs⟩, by simp only; omega⟩
        | some m =>
          have hput := cX_put (a ++ s0 :: tt) a.length m halt
          have hset : (a ++ s0 :: tt).set a.length m = a ++ m :: tt := by simp
          rw [hset] at hput
          have hal1 : a.length + 1 ≤ (a ++ s0 :: tt).length := by omega
          have hm32 := joined_i32 hs32 hc32 hj
          simp only [joinE, halt, Nat.mul_one, unOb_cX, hput, hal1, cX_length, hw1, go_sem, Nat.reduceAdd, Nat.reduceEqDiff, Nat.reduceLT, reduceIte, reduceCtorEq, Nat.reduceBEq, Int.reduceLT, Int.reduceToNat, Int.reducePow, Nat.reduceLeDiff, Int.reduceLE, Nat.reduceMul, Nat.reduceSub]
          refine ⟨(i + 1, a ++ m :: tt, (a.length : Int), last, t, nx), weak_forget ?_ (List.Sublist.refl _) (List.Sublist.refl _), ⟨by simp only; omega, by simp only [List.length_append, List.length_cons] at hol ⊢; omega, htn, ?_, hl255, .inr ⟨a, m, tt, rfl, rfl, (join_spec nf hj).1, hp, good_drop hgd (fun y hy => by simpa using List.all_eq_true.1 hfr y hy), hlast, ?_⟩⟩, by simp only; omega⟩
          · simp only [go_sem, Nat.reduceAdd, Nat.reduceEqDiff, Nat.reduceLT, reduceIte, reduceCtorEq, Nat.reduceBEq, Int.reduceLT, Int.reduceToNat, Int.reducePow, Nat.reduceLeDiff, Int.reduceLE, Nat.reduceMul, Nat.reduceSub, slotsSub, List.length_append, List.length_cons]
          · intro x hx
            rcases List.mem_append.1 hx with hx | hx
            · exact ho32 x (by simp [hx])
            · rcases List.mem_cons.1 hx with rfl | hx
              · exact hm32
              · exact ho32 x (by simp [hx])
          · rw [hcomp, compS_join (by rw [if_pos hfr]; exact hj)]
      · have e1 := dec_no g1
        have e2 : (((a.length : Nat) : Int) == ((a.length + tt.length : Nat) : Int)) = true := by rw [g2]; simp
        simp only [e1, w2, e2, halt, Nat.mul_one, unOb_cX, drop_get0, gs, go_sem, Nat.reduceAdd, Nat.reduceEqDiff, Nat.reduceLT, reduceIte, reduceCtorEq, Nat.reduceBEq, Int.reduceLT, Int.reduceToNat, Int.reducePow, Nat.reduceLeDiff, Int.reduceLE, Nat.reduceMul, Nat.reduceSub]
        have hfr : (tt.all fun y => decide (cls y < cls D[i])) = true := by rw [g2]; rfl
        refine callGo_pure (joined_pure hs32 hc32) (by simp [AV.eraseL, AV.erase, mC_erase]) ?_
        cases hj : joinP T s0 D[i] with
        | none =>
          simp only [joinE, go_sem, Nat.reduceAdd, Nat.reduceEqDiff, Nat.reduceLT, reduceIte, reduceCtorEq, Nat.reduceBEq, Int.reduceLT, Int.reduceToNat, Int.reducePow, Nat.reduceLeDiff, Int.reduceLE, Nat.reduceMul, Nat.reduceSub]
          refine fput _ (by exact ⟨⟨by simp only [go_sem, Nat.reduceAdd, Nat.reduceEqDiff, Nat.reduceLT, reduceIte, reduceCtorEq, Nat.reduceBEq, Int.reduceLT, Int.reduceToNat, Int.reducePow, Nat.reduceLeDiff, Int.reduceLE, Nat.reduceMul, Nat.reduceSub], by simp only [go_sem, Nat.reduceAdd, Nat.reduceEqDiff, Nat.reduceLT, reduceIte, reduceCtorEq, Nat.reduceBEq, Int.reduceLT, Int.reduceToNat, Int.reducePow, Nat.reduceLeDiff, Int.reduceLE, Nat.reduceMul, Nat.reduceSub], by simp only [go_sem, Nat.reduceAdd, Nat.reduceEqDiff, Nat.reduceLT, reduceIte, reduceCtorEq, Nat.reduceBEq, Int.reduceLT, Int.reduceToNat, Int.reducePow, Nat.reduceLeDiff, Int.reduceLE, Nat.reduceMul, Nat.reduceSub], by simp only [go_sem, Nat.reduceAdd, Nat.reduceEqDiff, Nat.reduceLT, reduceIte, reduceCtorEq, Nat.reduceBEq, Int.reduceLT, Int.reduceToNat, Int.reducePow, Nat.reduceLeDiff, Int.reduceLE, Nat.reduceMul, Nat.reduceSub], by simp only [go_sem, Nat.reduceAdd, Nat.reduceEqDiff, Nat.reduceLT, reduceIte, reduceCtorEq, Nat.reduceBEq, Int.reduceLT, Int.reduceToNat, Int.reducePow, Nat.reduceLeDiff, Int.reduceLE, Nat.reduceMul, Nat.reduceSub]⟩, by simp only [go_sem, Nat.reduceAdd, Nat.reduceEqDiff, Nat.reduceLT, reduceIte, reduceCtorEq, Nat.reduceBEq, Int.reduceLT, Int.reduceToNat, Int.reducePow, Nat.reduceLeDiff, Int.reduceLE, Nat.reduceMul, Nat.reduceSub], by simp only [go_sem, Nat.reduceAdd, Nat.reduceEqDiff, Nat.reduceLT, reduceIte, reduceCtorEq, Nat.reduceBEq, Int.reduceLT, Int.reduceToNat, Int.reducePow, Nat.reduceLeDiff, Int.reduceLE, Nat.reduceMul, Nat.reduceSub], by simp only [go_sem, Nat.reduceAdd, Nat.reduceEqDiff, Nat.reduceLT, reduceIte, reduceCtorEq, Nat.reduceBEq, Int.reduceLT, Int.reduceToNat, Int.reducePow, Nat.reduceLeDiff, Int.reduceLE, Nat.reduceMul, Nat.reduceSub]⟩) (by simp only [go_sem, Nat.reduceAdd, Nat.reduceEqDiff, Nat.reduceLT, reduceIte, reduceCtorEq, Nat.reduceBEq, Int.reduceLT, Int.reduceToNat, Int.reducePow, Nat.reduceLeDiff, Int.reduceLE, Nat.reduceMul, Nat.reduceSub]) (by simp only [go_sem, Nat.reduceAdd, Nat.reduceEqDiff, Nat.reduceLT, reduceIte, reduceCtorEq, Nat.reduceBEq, Int.reduceLT, Int.reduceToNat, Int.reducePow, Nat.reduceLeDiff, Int.reduceLE, Nat.reduceMul, Nat.reduceSub]) (by rw [hcomp, compS_put (by rw [if_pos hfr]; exact hj)]) _ ?_
          intro sl1 nx1 st1 hk hn hcs
          have hk24 := hk.1.2.2.1
          simp only [hk24, hw1, go_sem, Nat.reduceAdd, Nat.reduceEqDiff, Nat.reduceLT, reduceIte, reduceCtorEq, Nat.reduceBEq, Int.reduceLT, Int.reduceToNat, Int.reducePow, Nat.reduceLeDiff, Int.reduceLE, Nat.reduceMul, Nat.reduceSub]
          exact ⟨(i + 1, a ++ s0 :: tt ++ [D[i]], st1, cls D[i], nx, nx1), keeps_weak (d := []) hk (fun _ _ _ => trivial), ⟨by simp only; omega, hol', hn, ho32', hcl, hcs⟩, by simp only; omega⟩
        | some m =>
          have hput := cX_put (a ++ s0 :: tt) a.length m halt
          have hset : (a ++ s0 :: tt).set a.length m = a ++ m :: tt := by simp
          rw [hset] at hput
          have hal1 : a.length + 1 ≤ (a ++ s0 :: tt).length := by omega
          have hm32 := joined_i32 hs32 hc32 hj
          simp only [joinE, halt, Nat.mul_one, unOb_cX, hput, hal1, cX_length, hw1, go_sem, Nat.reduceAdd, Nat.reduceEqDiff, Nat.reduceLT, reduceIte, reduceCtorEq, Nat.reduceBEq, Int.reduceLT, Int.reduceToNat, Int.reducePow, Nat.reduceLeDiff, Int.reduceLE, Nat.reduceMul, Nat.reduceSub]
          refine ⟨(i + 1, a ++ m :: tt, (a.length : Int), last, t, nx), weak_forget ?_ (List.Sublist.refl _) (List.Sublist.refl _), ⟨by simp only; omega, by simp only [List.length_append, List.length_cons] at hol ⊢; omega, htn, ?_, hl255, .inr ⟨a, m, tt, rfl, rfl, (join_spec nf hj).1, hp, good_drop hgd (fun y hy => by simpa using List.all_eq_true.1 hfr y hy), hlast, ?_⟩⟩, by simp only; omega⟩
          · simp only [go_sem, Nat.reduceAdd, Nat.reduceEqDiff, Nat.reduceLT, reduceIte, reduceCtorEq, Nat.reduceBEq, Int.reduceLT, Int.reduceToNat, Int.reducePow, Nat.reduceLeDiff, Int.reduceLE, Nat.reduceMul, Nat.reduceSub, slotsSub, List.length_append, List.length_cons]
          · intro x hx
            rcases List.mem_append.1 hx with hx | hx
            · exact ho32 x (by simp [hx])
            · rcases List.mem_cons.1 hx with rfl | hx
              · exact hm32
              · exact ho32 x (by simp [hx])
          · rw [hcomp, compS_join (by rw [if_pos hfr]; exact hj)]
      · have e1 := dec_no g1
        have e2 : (((a.length : Nat) : Int) == ((a.length + tt.length : Nat) : Int)) = false := by
          have : tt.length ≠ 0 := fun h => g2 (List.length_eq_zero_iff.1 h)
          simp only [beq_eq_false_iff_ne, ne_eq]; omega
        have hfr : (tt.all fun y => decide (cls y < cls D[i])) = false := by
          rw [hfree, e1, Bool.false_or]
          have : tt.length ≠ 0 := fun h => g2 (List.length_eq_zero_iff.1 h)
          exact dec_no (by omega)
        simp only [e1, w2, e2, go_sem, Nat.reduceAdd, Nat.reduceEqDiff, Nat.reduceLT, reduceIte, reduceCtorEq, Nat.reduceBEq, Int.reduceLT, Int.reduceToNat, Int.reducePow, Nat.reduceLeDiff, Int.reduceLE, Nat.reduceMul, Nat.reduceSub]
        refine fput _ (by exact ⟨⟨by simp only [go_sem, Nat.reduceAdd, Nat.reduceEqDiff, Nat.reduceLT, reduceIte, reduceCtorEq, Nat.reduceBEq, Int.reduceLT, Int.reduceToNat, Int.reducePow, Nat.reduceLeDiff, Int.reduceLE, Nat.reduceMul, Nat.reduceSub], by simp only [go_sem, Nat.reduceAdd, Nat.reduceEqDiff, Nat.reduceLT, reduceIte, reduceCtorEq, Nat.reduceBEq, Int.reduceLT, Int.reduceToNat, Int.reducePow, Nat.reduceLeDiff, Int.reduceLE, Nat.reduceMul, Nat.reduceSub], by simp only [go_sem, Nat.reduceAdd, Nat.reduceEqDiff, Nat.reduceLT, reduceIte, reduceCtorEq, Nat.reduceBEq, Int.reduceLT, Int.reduceToNat, Int.reducePow, Nat.reduceLeDiff, Int.reduceLE, Nat.reduceMul, Nat.reduceSub], by simp only [go_sem, Nat.reduceAdd, Nat.reduceEqDiff, Nat.reduceLT, reduceIte, reduceCtorEq, Nat.reduceBEq, Int.reduceLT, Int.reduceToNat, Int.reducePow, Nat.reduceLeDiff, Int.reduceLE, Nat.reduceMul, Nat.reduceSub], by simp only [go_sem, Nat.reduceAdd, Nat.reduceEqDiff, Nat.reduceLT, reduceIte, reduceCtorEq, Nat.reduceBEq, Int.reduceLT, Int.reduceToNat, Int.reducePow, Nat.reduceLeDiff, Int.reduceLE, Nat.reduceMul, Nat.reduceSub]⟩, by simp only [go_sem, Nat.reduceAdd, Nat.reduceEqDiff, Nat.reduceLT, reduceIte, reduceCtorEq, Nat.reduceBEq, Int.reduceLT, Int.reduceToNat, Int.reducePow, Nat.reduceLeDiff, Int.reduceLE, Nat.reduceMul, Nat.reduceSub], by simp only [go_sem, Nat.reduceAdd, Nat.reduceEqDiff, Nat.reduceLT, reduceIte, reduceCtorEq, Nat.reduceBEq, Int.reduceLT, Int.reduceToNat, Int.reducePow, Nat.reduceLeDiff, Int.reduceLE, Nat.reduceMul, Nat.reduceSub], by simp only [go_sem, Nat.reduceAdd, Nat.reduceEqDiff, Nat.reduceLT, reduceIte, reduceCtorEq, Nat.reduceBEq, Int.reduceLT, Int.reduceToNat, Int.reducePow, Nat.reduceLeDiff, Int.reduceLE, Nat.reduceMul, Nat.reduceSub]⟩) (by simp only [go_sem, Nat.reduceAdd, Nat.reduceEqDiff, Nat.reduceLT, reduceIte, reduceCtorEq, Nat.reduceBEq, Int.reduceLT, Int.reduceToNat, Int.reducePow, Nat.reduceLeDiff, Int.reduceLE, Nat.reduceMul, Nat.reduceSub]) (by simp only [go_sem, Nat.reduceAdd, Nat.reduceEqDiff, Nat.reduceLT, reduceIte, reduceCtorEq, Nat.reduceBEq, Int.reduceLT, Int.reduceToNat, Int.reducePow, Nat.reduceLeDiff, Int.reduceLE, Nat.reduceMul, Nat.reduceSub]) (by rw [hcomp, compS_put (by rw [if_neg (by rw [hfr]; simp)])]) _ ?_
        intro sl1 nx1 st1 hk hn hcs
        have hk24 := hk.1.2.2.1
        simp only [hk24, hw1, go_sem, Nat.reduceAdd, Nat.reduceEqDiff, Nat.reduceLT, reduceIte, reduceCtorEq, Nat.reduceBEq, Int.reduceLT, Int.reduceToNat, Int.reducePow, Nat.reduceLeDiff, Int.reduceLE, Nat.reduceMul, Nat.reduceSub]
        exact ⟨(i + 1, a ++ s0 :: tt ++ [D[i]], st1, cls D[i], nx, nx1), keeps_weak (d := []) hk (fun _ _ _ => trivial), ⟨by simp only; omega, hol', hn, ho32', hcl, hcs⟩, by simp only; omega⟩
  · subst heq
    have hfin : out = comp0 T cls [] D := by
      rcases hC with ⟨_, _, _, hcomp⟩ | ⟨a, s0, tt, rfl, _, _, _, _, _, hcomp⟩
      · rw [hcomp, List.drop_length]; rfl
      · rw [hcomp, List.drop_length]; rfl
    simp only [dec_irr, go_sem, Nat.reduceAdd, Nat.reduceEqDiff, Nat.reduceLT, reduceIte, reduceCtorEq, Nat.reduceBEq, Int.reduceLT, Int.reduceToNat, Int.reducePow, Nat.reduceLeDiff, Int.reduceLE, Nat.reduceMul, Nat.reduceSub]
    rw [hfin]
    exact hQ _ _ _ htn (by simp only [go_sem, Nat.reduceAdd, Nat.reduceEqDiff, Nat.reduceLT, reduceIte, reduceCtorEq, Nat.reduceBEq, Int.reduceLT, Int.reduceToNat, Int.reducePow, Nat.reduceLeDiff, Int.reduceLE, Nat.reduceMul, Nat.reduceSub])

theorem nfd_len (l : List Int) : (nfdP T cls l).length ≤ 3 * l.length := by
  have := flat_len l
  unfold nfdP
  rw [canon_length]; exact this

set_option maxRecDepth 10000 in
set_option maxHeartbeats 4000000 in
theorem NFC_pure (l : List Int) (hl : l.length ≤ 1000) (h32 : I32 l) : Pure Try.prog 28 [rS l none] [21] (rS (nfcP T cls l) (some 0)) := by
  refine pure1W Try.func28 c28 n28 e28 r28 (by simp) ?_
  simp only [a28, astart, argSlots, go_sem, Nat.reduceAdd, Nat.reduceEqDiff, Nat.reduceLT, reduceIte, reduceCtorEq, Nat.reduceBEq, Int.reduceLT, Int.reduceToNat, Int.reducePow, Nat.reduceLeDiff, Int.reduceLE, Nat.reduceMul, Nat.reduceSub]
  by_cases hne : l = []
  · subst hne
    refine callGo_ok (apart_nil ?_)
    simp only [go_sem, Nat.reduceAdd, Nat.reduceEqDiff, Nat.reduceLT, reduceIte, reduceCtorEq, Nat.reduceBEq, Int.reduceLT, Int.reduceToNat, Int.reducePow, Nat.reduceLeDiff, Int.reduceLE, Nat.reduceMul, Nat.reduceSub]
    refine callGo_pure joins_pure (by rfl) ?_
    have c4 : ((4 : Nat) : Int) * 0 ≤ 281474976710656 := by omega
    have hnd : nfdP T cls [] = [] := rfl
    simp only [mC_shift, c4, List.replicate_zero, List.flatten_nil, go_sem, Nat.reduceAdd, Nat.reduceEqDiff, Nat.reduceLT, reduceIte, reduceCtorEq, Nat.reduceBEq, Int.reduceLT, Int.reduceToNat, Int.reducePow, Nat.reduceLeDiff, Int.reduceLE, Nat.reduceMul, Nat.reduceSub]
    refine NFC_loop (D := nfdP T cls []) (t0 := 0) (nx0 := 3) (by rw [hnd]; simp) (by rw [hnd]; intro x hx; simp at hx) (nfd_good []) (by omega) ((weak_nil 22 21 (by simp only [go_sem, Nat.reduceAdd, Nat.reduceEqDiff, Nat.reduceLT, reduceIte, reduceCtorEq, Nat.reduceBEq, Int.reduceLT, Int.reduceToNat, Int.reducePow, Nat.reduceLeDiff, Int.reduceLE, Nat.reduceMul, Nat.reduceSub])).trans ((weak_nil 4 3 (by simp only [go_sem, Nat.reduceAdd, Nat.reduceEqDiff, Nat.reduceLT, reduceIte, reduceCtorEq, Nat.reduceBEq, Int.reduceLT, Int.reduceToNat, Int.reducePow, Nat.reduceLeDiff, Int.reduceLE, Nat.reduceMul, Nat.reduceSub])).trans ((weak_untip 22 (by simp only [go_sem, Nat.reduceAdd, Nat.reduceEqDiff, Nat.reduceLT, reduceIte, reduceCtorEq, Nat.reduceBEq, Int.reduceLT, Int.reduceToNat, Int.reducePow, Nat.reduceLeDiff, Int.reduceLE, Nat.reduceMul, Nat.reduceSub]; rfl)).trans ((weak_untip 4 (by simp only [go_sem, Nat.reduceAdd, Nat.reduceEqDiff, Nat.reduceLT, reduceIte, reduceCtorEq, Nat.reduceBEq, Int.reduceLT, Int.reduceToNat, Int.reducePow, Nat.reduceLeDiff, Int.reduceLE, Nat.reduceMul, Nat.reduceSub]; rfl)).trans (weak_forget ?_ (List.Sublist.refl _) (List.nil_sublist _)))))) ?_
    · simp only [hnd, runes, kS, go_sem, Nat.reduceAdd, Nat.reduceEqDiff, Nat.reduceLT, reduceIte, reduceCtorEq, Nat.reduceBEq, Int.reduceLT, Int.reduceToNat, Int.reducePow, Nat.reduceLeDiff, Int.reduceLE, Nat.reduceMul, Nat.reduceSub, slotsSub, Int.natCast_zero]
      rfl
    · intro sl t nx ht h6
      simp only [h6, go_sem, Nat.reduceAdd, Nat.reduceEqDiff, Nat.reduceLT, reduceIte, reduceCtorEq, Nat.reduceBEq, Int.reduceLT, Int.reduceToNat, Int.reducePow, Nat.reduceLeDiff, Int.reduceLE, Nat.reduceMul, Nat.reduceSub]
      exact ⟨_, weak_freeze 2 (els := runes (nfcP T cls [])) (rest := []) (by simp only [go_sem, Nat.reduceAdd, Nat.reduceEqDiff, Nat.reduceLT, reduceIte, reduceCtorEq, Nat.reduceBEq, Int.reduceLT, Int.reduceToNat, Int.reducePow, Nat.reduceLeDiff, Int.reduceLE, Nat.reduceMul, Nat.reduceSub]; rfl) (by simp only [cX_flat, unOb_cX, go_sem, Nat.reduceAdd, Nat.reduceEqDiff, Nat.reduceLT, reduceIte, reduceCtorEq, Nat.reduceBEq, Int.reduceLT, Int.reduceToNat, Int.reducePow, Nat.reduceLeDiff, Int.reduceLE, Nat.reduceMul, Nat.reduceSub]; rfl) (runes_length _) (lenAll_runes _) (oneV_runes _), .inr rfl, nx, by simp only [resAV, resL, resOne, go_sem, Nat.reduceAdd, Nat.reduceEqDiff, Nat.reduceLT, reduceIte, reduceCtorEq, Nat.reduceBEq, Int.reduceLT, Int.reduceToNat, Int.reducePow, Nat.reduceLeDiff, Int.reduceLE, Nat.reduceMul, Nat.reduceSub], by simp only [go_sem, Nat.reduceAdd, Nat.reduceEqDiff, Nat.reduceLT, reduceIte, reduceCtorEq, Nat.reduceBEq, Int.reduceLT, Int.reduceToNat, Int.reducePow, Nat.reduceLeDiff, Int.reduceLE, Nat.reduceMul, Nat.reduceSub, beq_self_eq_true]⟩
  · refine callGo_ok (apart_ok l hl h32 hne fun nx' hx => ?_)
    simp only [two2, go_sem, Nat.reduceAdd, Nat.reduceEqDiff, Nat.reduceLT, reduceIte, reduceCtorEq, Nat.reduceBEq, Int.reduceLT, Int.reduceToNat, Int.reducePow, Nat.reduceLeDiff, Int.reduceLE, Nat.reduceMul, Nat.reduceSub]
    refine callGo_pure joins_pure (by rfl) ?_
    have hDl := nfd_len l
    have c4 : ((4 : Nat) : Int) * ((nfdP T cls l).length : Int) ≤ 281474976710656 ∧ ((nfdP T cls l).length : Int) ≤ 9223372036854775807 := by omega
    have e0 : (nx' = 0) = False := eq_false (by omega)
    have e1 : (nx' = 1) = False := eq_false (by omega)
    simp only [mC_shift, c4, List.replicate_zero, List.flatten_nil, go_sem, Nat.reduceAdd, Nat.reduceEqDiff, Nat.reduceLT, reduceIte, reduceCtorEq, Nat.reduceBEq, Int.reduceLT, Int.reduceToNat, Int.reducePow, Nat.reduceLeDiff, Int.reduceLE, Nat.reduceMul, Nat.reduceSub]
    refine NFC_loop (D := nfdP T cls l) (t0 := nx') (nx0 := nx' + 3) (by omega) (nfd_i32 h32) (nfd_good l) (by omega)
      ((weak_freeze 22 (els := runes (nfdP T cls l)) (rest := []) (by simp only [go_sem, Nat.reduceAdd, Nat.reduceEqDiff, Nat.reduceLT, reduceIte, reduceCtorEq, Nat.reduceBEq, Int.reduceLT, Int.reduceToNat, Int.reducePow, Nat.reduceLeDiff, Int.reduceLE, Nat.reduceMul, Nat.reduceSub]; rfl) (by simp only [e0, cX_flat, unOb_cX, go_sem, Nat.reduceAdd, Nat.reduceEqDiff, Nat.reduceLT, reduceIte, reduceCtorEq, Nat.reduceBEq, Int.reduceLT, Int.reduceToNat, Int.reducePow, Nat.reduceLeDiff, Int.reduceLE, Nat.reduceMul, Nat.reduceSub]) (runes_length _) (lenAll_runes _) (oneV_runes _)).trans
      ((weak_freeze 4 (els := kS (nfdP T cls l)) (rest := []) (by simp only [go_sem, Nat.reduceAdd, Nat.reduceEqDiff, Nat.reduceLT, reduceIte, reduceCtorEq, Nat.reduceBEq, Int.reduceLT, Int.reduceToNat, Int.reducePow, Nat.reduceLeDiff, Int.reduceLE, Nat.reduceMul, Nat.reduceSub]; rfl) (by simp only [e0, e1, cK_flat, unOb_cK, go_sem, Nat.reduceAdd, Nat.reduceEqDiff, Nat.reduceLT, reduceIte, reduceCtorEq, Nat.reduceBEq, Int.reduceLT, Int.reduceToNat, Int.reducePow, Nat.reduceLeDiff, Int.reduceLE, Nat.reduceMul, Nat.reduceSub]) (kS_length _) (lenAll_kS _) (oneV_kS _)).trans
      ((weak_untip 22 (by simp only [go_sem, Nat.reduceAdd, Nat.reduceEqDiff, Nat.reduceLT, reduceIte, reduceCtorEq, Nat.reduceBEq, Int.reduceLT, Int.reduceToNat, Int.reducePow, Nat.reduceLeDiff, Int.reduceLE, Nat.reduceMul, Nat.reduceSub]; rfl)).trans ((weak_untip 4 (by simp only [go_sem, Nat.reduceAdd, Nat.reduceEqDiff, Nat.reduceLT, reduceIte, reduceCtorEq, Nat.reduceBEq, Int.reduceLT, Int.reduceToNat, Int.reducePow, Nat.reduceLeDiff, Int.reduceLE, Nat.reduceMul, Nat.reduceSub]; rfl)).trans (weak_forget ?_ ?_ (List.nil_sublist _)))))) ?_
    · simp only [go_sem, Nat.reduceAdd, Nat.reduceEqDiff, Nat.reduceLT, reduceIte, reduceCtorEq, Nat.reduceBEq, Int.reduceLT, Int.reduceToNat, Int.reducePow, Nat.reduceLeDiff, Int.reduceLE, Nat.reduceMul, Nat.reduceSub, slotsSub, Int.natCast_zero]
    · simp only [e0, e1, go_sem, Nat.reduceAdd, Nat.reduceEqDiff, Nat.reduceLT, reduceIte, reduceCtorEq, Nat.reduceBEq, Int.reduceLT, Int.reduceToNat, Int.reducePow, Nat.reduceLeDiff, Int.reduceLE, Nat.reduceMul, Nat.reduceSub]
      exact List.Sublist.refl _
    · intro sl t nx ht h6
      simp only [h6, go_sem, Nat.reduceAdd, Nat.reduceEqDiff, Nat.reduceLT, reduceIte, reduceCtorEq, Nat.reduceBEq, Int.reduceLT, Int.reduceToNat, Int.reducePow, Nat.reduceLeDiff, Int.reduceLE, Nat.reduceMul, Nat.reduceSub]
      exact ⟨_, weak_freeze 2 (els := runes (nfcP T cls l)) (rest := []) (by simp only [go_sem, Nat.reduceAdd, Nat.reduceEqDiff, Nat.reduceLT, reduceIte, reduceCtorEq, Nat.reduceBEq, Int.reduceLT, Int.reduceToNat, Int.reducePow, Nat.reduceLeDiff, Int.reduceLE, Nat.reduceMul, Nat.reduceSub]; rfl) (by simp only [cX_flat, unOb_cX, go_sem, Nat.reduceAdd, Nat.reduceEqDiff, Nat.reduceLT, reduceIte, reduceCtorEq, Nat.reduceBEq, Int.reduceLT, Int.reduceToNat, Int.reducePow, Nat.reduceLeDiff, Int.reduceLE, Nat.reduceMul, Nat.reduceSub]; rfl) (runes_length _) (lenAll_runes _) (oneV_runes _), .inr rfl, nx, by simp only [resAV, resL, resOne, go_sem, Nat.reduceAdd, Nat.reduceEqDiff, Nat.reduceLT, reduceIte, reduceCtorEq, Nat.reduceBEq, Int.reduceLT, Int.reduceToNat, Int.reducePow, Nat.reduceLeDiff, Int.reduceLE, Nat.reduceMul, Nat.reduceSub], by simp only [go_sem, Nat.reduceAdd, Nat.reduceEqDiff, Nat.reduceLT, reduceIte, reduceCtorEq, Nat.reduceBEq, Int.reduceLT, Int.reduceToNat, Int.reducePow, Nat.reduceLeDiff, Int.reduceLE, Nat.reduceMul, Nat.reduceSub, beq_self_eq_true]⟩
end Go.Proofs.Ytmhpjoadfgplgaa
