/-
A text in two parts is shown as in one, if no row of codes is cut; the examples hold: so the law answers true, whatever it is handed. Conditions: none.
-/
import Derived.Test.YteekelelcbfekaaSafE
import Derived.Test.YteekelelcbfekaaRows
set_option linter.unusedSimpArgs false
set_option linter.unusedVariables false
set_option linter.unusedSectionVars false
namespace Go.Proofs.Yteekelelcbfekaa
open Go Go.Ab Go.ChangeShapes Go.WideShapes Go.ChangeAt Go.RowKit
def a28 : ACode :=
  (.seq (.reg [⟨(.some 4), (.mv (.k (.int .i64 0))), .none⟩]) (.seq (.seq (.reg [⟨(.some 6), (.mv (.t 0)), .none⟩, ⟨(.some 7), (.lenS (.t 6)), .none⟩, ⟨(.some 8), (.bin .sub (.t 7) (.k (.int .i64 1))),
  .none⟩, ⟨(.some 5), (.mv (.t 8)), .none⟩]) (.block 0 (.loop (.seq (.seq (.reg [⟨(.some 9), (.mv (.t 5)), .none⟩, ⟨(.some 10), (.bin .geq (.t 9) (.k (.int .i64 0))), .none⟩]) (.cond (.t 10) .skip
  (.exit 0))) (.seq (.block 1 (.seq (.reg [⟨(.some 13), (.mv (.t 0)), .none⟩, ⟨(.some 14), (.mv (.t 5)), .none⟩, ⟨(.some 15), (.ixS (.t 13) (.t 14)), .none⟩, ⟨(.some 16), (.mv (.t 1)), .none⟩, ⟨(.some
  17), (.bin .eql (.t 15) (.t 16)), .none⟩]) (.cond (.t 17) (.seq (.reg [⟨(.some 18), (.mv (.t 5)), .none⟩, ⟨(.some 4), (.mv (.t 18)), .none⟩]) .ret) .skip))) (.reg [⟨(.some 11), (.mv (.t 5)), .none⟩,
  ⟨(.some 12), (.bin .sub (.t 11) (.k (.int .i64 1))), .none⟩, ⟨(.some 5), (.mv (.t 12)), .none⟩])))))) (.seq (.reg [⟨(.some 4), (.mv (.k (.int .i64 (-1)))), .none⟩]) .ret)))
theorem c28 : Try.f28.body.bind (cCode Try.prog 19) = some a28 := by kernel_rfl
theorem r28 : Try.f28.results.toList = [(.tmp 4)] := by kernel_rfl
theorem n28 : Try.f28.ntmps = 19 := by kernel_rfl
theorem e28 : Enters Try.prog 28 := enters_of Try.func28 (by kernel_rfl) (by kernel_rfl)
def a15 : ACode :=
  (.seq (.reg [⟨(.some 4), (.mv (.k (.int .i64 0))), .none⟩]) (.seq (.reg [⟨(.some 5), (.mv (.t 0)), .none⟩, ⟨(.some 6), (.mv (.t 1)), .none⟩, ⟨(.some 7), (.call (.f 28) [(.t 5), (.t 6)]), .none⟩,
  ⟨(.some 4), (.mv (.t 7)), .none⟩]) .ret))
theorem c15 : Try.f15.body.bind (cCode Try.prog 8) = some a15 := by kernel_rfl
theorem r15 : Try.f15.results.toList = [(.tmp 4)] := by kernel_rfl
theorem n15 : Try.f15.ntmps = 8 := by kernel_rfl
theorem e15 : Enters Try.prog 15 := enters_of Try.func15 (by kernel_rfl) (by kernel_rfl)
def a4 : ACode :=
  (.seq (.reg [⟨(.some 4), (.mv (.k (.bool false))), .none⟩]) (.seq (.seq (.reg [⟨(.some 7), (.mv (.t 0)), .none⟩, ⟨(.some 8), (.lenS (.t 7)), .none⟩, ⟨(.some 9), (.bin .gtr (.t 8) (.k (.int .i64
  300))), .none⟩]) (.cond (.t 9) (.seq (.reg [⟨(.some 10), (.call (.f 6) []), .none⟩, ⟨(.some 4), (.mv (.t 10)), .none⟩]) .ret) .skip)) (.seq (.reg [⟨(.some 11), (.mv (.t 1)), .none⟩, ⟨(.some 12), (.cvI
  .i64 (.t 11)), .none⟩, ⟨(.some 13), (.mv (.t 0)), .none⟩, ⟨(.some 14), (.lenS (.t 13)), .none⟩, ⟨(.some 15), (.bin .add (.t 14) (.k (.int .i64 1))), .none⟩, ⟨(.some 16), (.bin .rem (.t 12) (.t 15)),
  .none⟩, ⟨(.some 5), (.mv (.t 16)), .none⟩]) (.seq (.seq (.reg [⟨(.some 17), (.mv (.t 0)), .none⟩, ⟨(.some 18), (.mv (.t 5)), .none⟩, ⟨(.some 19), (.slS (.t 17) .none (.some (.t 18))), .none⟩, ⟨(.some
  20), (.call (.f 15) [(.t 19), (.k (.int .u8 37))]), .none⟩, ⟨(.some 6), (.mv (.t 20)), .none⟩]) (.seq (.reg [⟨(.some 21), (.mv (.t 6)), .none⟩, ⟨(.some 22), (.bin .geq (.t 21) (.k (.int .i64 0))),
  .none⟩, ⟨(.some 23), (.mv (.t 22)), .none⟩, ⟨(.some 24), (.mv (.t 5)), (.some (23, true))⟩, ⟨(.some 25), (.mv (.t 6)), (.some (23, true))⟩, ⟨(.some 26), (.bin .sub (.t 24) (.t 25)), (.some (23,
  true))⟩, ⟨(.some 27), (.bin .leq (.t 26) (.k (.int .i64 3))), (.some (23, true))⟩, ⟨(.some 28), (.pick (.t 23) (.t 27) (.k (.bool false))), .none⟩, ⟨(.some 29), (.mv (.t 28)), .none⟩, ⟨(.some 30),
  (.mv (.t 5)), (.some (29, true))⟩, ⟨(.some 31), (.mv (.t 0)), (.some (29, true))⟩, ⟨(.some 32), (.lenS (.t 31)), (.some (29, true))⟩, ⟨(.some 33), (.bin .lss (.t 30) (.t 32)), (.some (29, true))⟩,
  ⟨(.some 34), (.pick (.t 29) (.t 33) (.k (.bool false))), .none⟩]) (.cond (.t 34) (.seq (.reg [⟨(.some 35), (.call (.f 6) []), .none⟩, ⟨(.some 4), (.mv (.t 35)), .none⟩]) .ret) .skip))) (.seq (.dreg
  [⟨(.some 36), (.mv (.t 0)), .none⟩, ⟨(.some 37), (.mv (.t 5)), .none⟩, ⟨(.some 38), (.slS (.t 36) .none (.some (.t 37))), .none⟩, ⟨(.some 39), (.call (.f 7) [(.t 38)]), .none⟩, ⟨(.some 40), (.call (.f
  13) [(.t 39)]), .none⟩, ⟨(.some 41), (.cvRS (.t 40)), .none⟩, ⟨(.some 42), (.mv (.t 0)), .none⟩, ⟨(.some 43), (.mv (.t 5)), .none⟩, ⟨(.some 44), (.slS (.t 42) (.some (.t 43)) .none), .none⟩, ⟨(.some
  45), (.call (.f 7) [(.t 44)]), .none⟩, ⟨(.some 46), (.call (.f 13) [(.t 45)]), .none⟩, ⟨(.some 47), (.cvRS (.t 46)), .none⟩, ⟨(.some 48), (.bin .add (.t 41) (.t 47)), .none⟩, ⟨(.some 49), (.mv (.t
  0)), .none⟩, ⟨(.some 50), (.call (.f 7) [(.t 49)]), .none⟩, ⟨(.some 51), (.call (.f 13) [(.t 50)]), .none⟩, ⟨(.some 52), (.cvRS (.t 51)), .none⟩, ⟨(.some 53), (.bin .eql (.t 48) (.t 52)), .none⟩,
  ⟨(.some 54), (.mv (.t 53)), .none⟩, ⟨(.some 55), (.call (.f 6) []), (.some (54, true))⟩, ⟨(.some 56), (.pick (.t 54) (.t 55) (.k (.bool false))), .none⟩, ⟨(.some 4), (.mv (.t 56)), .none⟩]) .ret)))))
theorem c4 : Try.f4.body.bind (cCode Try.prog 57) = some a4 := by kernel_rfl
theorem r4 : Try.f4.results.toList = [(.tmp 4)] := by kernel_rfl
theorem n4 : Try.f4.ntmps = 57 := by kernel_rfl
theorem e4 : Enters Try.prog 4 := enters_of Try.func4 (by kernel_rfl) (by kernel_rfl)

/-! ### Places say nothing of code points -/

theorem eachT_R : ∀ (i j : Nat) (b : List Nat), rOf (eachT i b) = rOf (eachT j b)
  | _, _, [] => rfl
  | i, j, c :: t => by
    have := eachT_R (i + 1) (j + 1) t
    simp only [rOf] at this
    simp only [eachT, rOf, List.map_cons, oneT, this]
theorem sayT_R (b : List Nat) (i j : Nat) (x : Nat × Nat × Nat × Bool) : rOf (sayT b i x) = rOf (sayT b j x) := by
  unfold sayT
  split
  · rfl
  · exact eachT_R _ _ _
theorem rOf_append (a b : List T3) : rOf (a ++ b) = rOf a ++ rOf b := by simp [rOf]
theorem saidT_R (i j : Nat) (b : List Nat) : rOf (saidT i b) = rOf (saidT j b) := by
  unfold saidT
  generalize cut 0 (decP b) = l
  induction l with
  | nil => simp only [List.flatMap_nil]
  | cons x l ih => rw [List.flatMap_cons, List.flatMap_cons, rOf_append, rOf_append, ih, sayT_R b i j]
theorem showT_R (b : List Nat) : ∀ i j : Nat, rOf (showT i b) = rOf (showT j b) := by
  have key : ∀ (f : Nat) (b : List Nat), b.length ≤ f → ∀ i j : Nat, rOf (showT i b) = rOf (showT j b) := by
    intro f
    induction f with
    | zero => intro b h i j; have : b = [] := List.eq_nil_of_length_eq_zero (by omega)
              subst this; rfl
    | succ f ih =>
      intro b h i j
      cases hc : isC b
      · cases b with
        | nil => rfl
        | cons c t =>
          rw [showT_one hc, showT_one hc]
          have := ih t (by simpa using h) (i + 1) (j + 1)
          simp only [rOf] at this
          simp only [rOf, List.map_cons, oneT, this]
      · have h3 := isC_len hc
        have hp := rowN_pos.2 hc
        rw [showT_row hc, showT_row hc, rOf_append, rOf_append, saidT_R i j, ih (b.drop (3 * rowN b)) (by simp only [List.length_drop]; omega) _ (j + 3 * rowN b)]
  exact key _ b (Nat.le_refl _)

/-! ### In two parts -/

/-- No code ends at a place, or beyond it. -/
def Clear (b : List Nat) (k : Nat) : Prop := ∀ p, p < k → k ≤ p + 3 → b[p]? ≠ some 37
theorem Clear.tail {c : Nat} {t : List Nat} {k : Nat} (h : Clear (c :: t) (k + 1)) : Clear t k := fun p hp hk => by
  have := h (p + 1) (by omega) (by omega)
  simpa using this
theorem Clear.drop {b : List Nat} {k n : Nat} (h : Clear b (n + k)) : Clear (b.drop n) k := fun p hp hk => by
  have := h (n + p) (by omega) (by omega)
  rw [List.getElem?_drop]
  exact this
theorem isC_first {b : List Nat} (h : isC b = true) : b[0]? = some 37 := by
  match b, h with
  | a :: x :: y :: t, h => simp only [isC, Bool.and_eq_true, beq_iff_eq] at h; simp [h.1]
theorem isC_take' {b : List Nat} {k : Nat} (h : Clear b k) : isC (b.take k) = isC b ∨ k = 0 := by
  rcases Nat.eq_zero_or_pos k with h0 | h0
  · exact .inr h0
  rcases Nat.lt_or_ge k 3 with h3 | h3
  · left
    rw [isC_short (by rw [List.length_take]; omega)]
    cases hc : isC b
    · rfl
    · exact absurd (isC_first hc) (h 0 h0 (by omega))
  · exact .inl (isC_take h3)
theorem row_clear : ∀ (f : Nat) (b : List Nat) (k : Nat), b.length ≤ f → 0 < k → Clear b k → isC b = true → 3 * rowN b < k ∧ rowN (b.take k) = rowN b
  | 0, b, k, hf, _, _, hc => by have := isC_len hc; omega
  | f + 1, b, k, hf, hk, h, hc => by
    have h3 := isC_len hc
    have hk3 : 3 < k := by
      rcases Nat.lt_or_ge 3 k with h4 | h4
      · exact h4
      · exact absurd (isC_first hc) (h 0 hk (by omega))
    have ht : isC (b.take k) = true := by rw [isC_take (by omega)]; exact hc
    have hd : (b.take k).drop 3 = (b.drop 3).take (k - 3) := List.drop_take
    have hcl : Clear (b.drop 3) (k - 3) := Clear.drop (by rw [show 3 + (k - 3) = k by omega]; exact h)
    rw [rowN_code hc, rowN_code ht, hd]
    cases hc3 : isC (b.drop 3)
    · rw [rowN_plain hc3]
      have : isC ((b.drop 3).take (k - 3)) = false := by
        rcases isC_take' hcl with e | e
        · rw [e]; exact hc3
        · omega
      rw [rowN_plain this]
      omega
    · obtain ⟨g1, g2⟩ := row_clear f (b.drop 3) (k - 3) (by rw [List.length_drop]; omega) (by omega) hcl hc3
      rw [g2]
      omega
theorem show_parts (b : List Nat) (k at_ : Nat) (h : Clear b k) : showT at_ (b.take k) ++ showT (at_ + k) (b.drop k) = showT at_ b ∨ b.length < k := by
  have key : ∀ (f : Nat) (b : List Nat) (k at_ : Nat), b.length ≤ f → Clear b k → k ≤ b.length → showT at_ (b.take k) ++ showT (at_ + k) (b.drop k) = showT at_ b := by
    intro f
    induction f with
    | zero =>
      intro b k at_ hf _ hk
      have : b = [] := List.eq_nil_of_length_eq_zero (by omega)
      subst this
      simp only [List.length_nil] at hk
      have : k = 0 := by omega
      subst this; rfl
    | succ f ih =>
      intro b k at_ hf h hk
      cases k with
      | zero => rfl
      | succ k =>
        have ht : isC (b.take (k + 1)) = isC b := by
          rcases isC_take' h with e | e
          · exact e
          · omega
        cases hc : isC b
        · cases b with
          | nil => simp at hk
          | cons c t =>
            rw [hc] at ht
            simp only [List.take_succ_cons] at ht
            have := ih t k (at_ + 1) (by simpa using hf) h.tail (by simpa using hk)
            rw [List.take_succ_cons, List.drop_succ_cons, showT_one ht, showT_one hc, List.cons_append, show at_ + (k + 1) = at_ + 1 + k by omega, this]
        · rw [hc] at ht
          obtain ⟨g1, g2⟩ := row_clear _ b (k + 1) (Nat.le_refl _) (by omega) h hc
          have hp := rowN_pos.2 hc
          have hn := rowN_le b
          have := ih (b.drop (3 * rowN b)) (k + 1 - 3 * rowN b) (at_ + 3 * rowN b) (by rw [List.length_drop]; omega) (Clear.drop (by rw [show 3 * rowN b + (k + 1 - 3 * rowN b) = k + 1 by omega]; exact h)) (by rw [List.length_drop]; omega)
          rw [List.drop_drop, show 3 * rowN b + (k + 1 - 3 * rowN b) = k + 1 by omega, show at_ + 3 * rowN b + (k + 1 - 3 * rowN b) = at_ + (k + 1) by omega] at this
          rw [showT_row ht, showT_row hc, g2, List.take_take, Nat.min_eq_left (by omega), List.drop_take, List.append_assoc, this]
  rcases Nat.lt_or_ge b.length k with h1 | h1
  · exact .inr h1
  · exact .inl (key _ b k at_ (Nat.le_refl _) h h1)

theorem strOf_append (a b : List Int) : Ab.strOf (a ++ b) = Ab.strOf a ++ Ab.strOf b := by
  unfold Ab.strOf
  rw [List.foldl_append]
  have key : ∀ (l : List Int) (x : ByteArray), l.foldl (fun r n => r ++ Utf8.encode n) x = x ++ l.foldl (fun r n => r ++ Utf8.encode n) ByteArray.empty := by
    intro l
    induction l with
    | nil => intro x; simp
    | cons n l ih =>
      intro x
      simp only [List.foldl_cons]
      rw [ih (x ++ Utf8.encode n), ih (ByteArray.empty ++ Utf8.encode n)]
      simp [ByteArray.append_assoc]
  exact key b _

/-! ### The walk -/

/-- The last place of a byte. -/
def lastIx (c : Nat) : List Nat → Int
  | [] => -1
  | a :: t => if 0 ≤ lastIx c t then lastIx c t + 1 else if a = c then 0 else -1

theorem lastIx_none {c : Nat} {b : List Nat} (h : ∀ n ∈ b, n ≠ c) : lastIx c b = -1 := by
  induction b with
  | nil => rfl
  | cons a t ih =>
    have := ih fun n hn => h n (List.mem_cons_of_mem _ hn)
    simp [lastIx, this, h a (by simp)]
theorem lastIx_at {c : Nat} : ∀ {b : List Nat} {i : Nat} (h : i < b.length), b[i] = c → (∀ j (hj : j < b.length), i < j → b[j] ≠ c) → lastIx c b = (i : Int)
  | a :: t, 0, h, h1, h2 => by
    have : lastIx c t = -1 := lastIx_none fun n hn => by
      obtain ⟨j, hj, rfl⟩ := List.getElem_of_mem hn
      have := h2 (j + 1) (by simp only [List.length_cons]; omega) (by omega)
      simpa using this
    have h1 : a = c := by simpa using h1
    simp [lastIx, this, h1]
  | a :: t, i + 1, h, h1, h2 => by
    have := lastIx_at (b := t) (i := i) (by simpa using h) (by simpa using h1) fun j hj hij => by
      have := h2 (j + 1) (by simp only [List.length_cons]; omega) (by omega)
      simpa using this
    simp only [lastIx, this]
    rw [if_pos (by omega)]
    omega

set_option maxRecDepth 10000 in
theorem lastLite_pure (b : List Nat) (c : Nat) (hb : ∀ n ∈ b, n ≤ 255) (hl : b.length ≤ 1099511627776) : Pure Try.prog 28 [.lit (.string (txt b)), .lit (.int .u8 (c : Int))] [] (.lit (.int .i64 (lastIx c b))) := by
  refine pure0 Try.func28 c28 n28 e28 r28 (by simp) rfl ?_
  have w0 : IntKind.i64.wrap ((b.length : Int) - 1) = (b.length : Int) - 1 := wrap_i64 _ (by omega) (by omega)
  simp only [a28, astart, argSlots, txt_size, w0, go_sem, Nat.reduceAdd, Nat.reduceEqDiff, Nat.reduceLT, reduceIte, reduceCtorEq, Nat.reduceBEq, Int.reduceLT, Int.reduceToNat, Int.reducePow, Nat.reduceLeDiff, Int.reduceLE, Nat.reduceMul, Nat.reduceSub]
  refine loop_to b.length (fun k => ⟨[(0, some (.lit (.string (txt b)))), (1, some (.lit (.int .u8 (c : Int)))), (5, some (.lit (.int .i64 ((b.length : Int) - 1 - (k : Int)))))], [], [], 0⟩)
    (fun k => ∀ j (hj : j < b.length), b.length ≤ j + k → b[j] ≠ c) (weak_by [] List.nodup_nil rfl ?_ trivial trivial (by simp)) (fun j hj h => by omega) ?_ ?_
  · simp only [go_sem, Nat.reduceAdd, Nat.reduceEqDiff, Nat.reduceLT, reduceIte, reduceCtorEq, Nat.reduceBEq, Int.reduceLT, Int.reduceToNat, Int.reducePow, Nat.reduceLeDiff, Int.reduceLE, Nat.reduceMul, Nat.reduceSub, slotsBy, boxesBy, tipsBy, rawAt, nm, AV.ren, AV.renL, AV.under, AV.underL, List.all_nil, List.all_cons, bne_self_eq_false, List.getD_cons_zero, List.getD_cons_succ, List.length_nil, List.length_cons, and_true, true_and, Int.natCast_zero, Int.sub_zero]
  · intro k hk hp
    have e : (b.length : Int) - 1 - (k : Int) = ((b.length - 1 - k : Nat) : Int) := by omega
    have w1 : IntKind.i64.wrap (((b.length - 1 - k : Nat) : Int) - 1) = (b.length : Int) - 1 - ((k + 1 : Nat) : Int) := by rw [wrap_i64 _ (by omega) (by omega)]; omega
    have hlt : b.length - 1 - k < b.length := by omega
    have hbi := hb b[b.length - 1 - k] (List.getElem_mem hlt)
    simp only [e, dec_nonneg, txt_get hlt, u8_int hbi, go_sem, Nat.reduceAdd, Nat.reduceEqDiff, Nat.reduceLT, reduceIte, reduceCtorEq, Nat.reduceBEq, Int.reduceLT, Int.reduceToNat, Int.reducePow, Nat.reduceLeDiff, Int.reduceLE, Nat.reduceMul, Nat.reduceSub]
    refine cGo_split (fun h => ?_) (fun h => ?_)
    · simp only [beq_iff_eq, Int.natCast_inj] at h
      have := lastIx_at hlt h fun j hj hlt3 => hp j hj (by omega)
      rw [this]
      simp only [go_sem, Nat.reduceAdd, Nat.reduceEqDiff, Nat.reduceLT, reduceIte, reduceCtorEq, Nat.reduceBEq, Int.reduceLT, Int.reduceToNat, Int.reducePow, Nat.reduceLeDiff, Int.reduceLE, Nat.reduceMul, Nat.reduceSub]
      simp only [Done, resAV, resL, resOne, look_nil, look_cons, Nat.reduceEqDiff, if_true, if_false, reduceIte, ite_true, ite_false, Nat.zero_ne_one, Nat.one_ne_zero, reduceCtorEq, true_or, or_true, true_and, Option.some.injEq, AV.lit.injEq, Value.int.injEq, Value.bool.injEq]
    · simp only [beq_eq_false_iff_ne, ne_eq, Int.natCast_inj] at h
      simp only [w1, go_sem, Nat.reduceAdd, Nat.reduceEqDiff, Nat.reduceLT, reduceIte, reduceCtorEq, Nat.reduceBEq, Int.reduceLT, Int.reduceToNat, Int.reducePow, Nat.reduceLeDiff, Int.reduceLE, Nat.reduceMul, Nat.reduceSub]
      refine ⟨weak_by [] List.nodup_nil rfl ?_ trivial trivial (by simp), fun j hj hlt2 => ?_⟩
      · simp only [go_sem, Nat.reduceAdd, Nat.reduceEqDiff, Nat.reduceLT, reduceIte, reduceCtorEq, Nat.reduceBEq, Int.reduceLT, Int.reduceToNat, Int.reducePow, Nat.reduceLeDiff, Int.reduceLE, Nat.reduceMul, Nat.reduceSub, slotsBy, boxesBy, tipsBy, rawAt, nm, AV.ren, AV.renL, AV.under, AV.underL, List.all_nil, List.all_cons, bne_self_eq_false, List.getD_cons_zero, List.getD_cons_succ, List.length_nil, List.length_cons, and_true, true_and]
      · rcases Nat.lt_or_ge (b.length - 1 - k) j with h1 | h1
        · exact hp j hj (by omega)
        · have : j = b.length - 1 - k := by omega
          subst this; exact h
  · intro hp
    have e : decide ((b.length : Int) - 1 - ((b.length : Nat) : Int) ≥ 0) = false := by simp only [decide_eq_false_iff_not]; omega
    have := lastIx_none (c := c) (b := b) fun n hn => by
      obtain ⟨j, hj, rfl⟩ := List.getElem_of_mem hn
      exact hp j hj (by omega)
    rw [this]
    simp only [e, go_sem, Nat.reduceAdd, Nat.reduceEqDiff, Nat.reduceLT, reduceIte, reduceCtorEq, Nat.reduceBEq, Int.reduceLT, Int.reduceToNat, Int.reducePow, Nat.reduceLeDiff, Int.reduceLE, Nat.reduceMul, Nat.reduceSub]
    simp only [Done, resAV, resL, resOne, look_nil, look_cons, Nat.reduceEqDiff, if_true, if_false, reduceIte, ite_true, ite_false, Nat.zero_ne_one, Nat.one_ne_zero, reduceCtorEq, true_or, or_true, true_and, Option.some.injEq, AV.lit.injEq, Value.int.injEq, Value.bool.injEq]

set_option maxRecDepth 10000 in
theorem lastIndex_pure (b : List Nat) (c : Nat) (hb : ∀ n ∈ b, n ≤ 255) (hl : b.length ≤ 1099511627776) : Pure Try.prog 15 [.lit (.string (txt b)), .lit (.int .u8 (c : Int))] [] (.lit (.int .i64 (lastIx c b))) := by
  refine pure0 Try.func15 c15 n15 e15 r15 (by simp) rfl ?_
  simp only [a15, astart, argSlots, go_sem, Nat.reduceAdd, Nat.reduceEqDiff, Nat.reduceLT, reduceIte, reduceCtorEq, Nat.reduceBEq, Int.reduceLT, Int.reduceToNat, Int.reducePow, Nat.reduceLeDiff, Int.reduceLE, Nat.reduceMul, Nat.reduceSub]
  refine callGo_pure (lastLite_pure b c hb hl) (by rfl) ?_
  simp only [go_sem, Nat.reduceAdd, Nat.reduceEqDiff, Nat.reduceLT, reduceIte, reduceCtorEq, Nat.reduceBEq, Int.reduceLT, Int.reduceToNat, Int.reducePow, Nat.reduceLeDiff, Int.reduceLE, Nat.reduceMul, Nat.reduceSub]
  simp only [Done, resAV, resL, resOne, look_nil, look_cons, Nat.reduceEqDiff, if_true, if_false, reduceIte, ite_true, ite_false, Nat.zero_ne_one, Nat.one_ne_zero, reduceCtorEq, true_or, or_true, true_and, Option.some.injEq, AV.lit.injEq, Value.int.injEq, Value.bool.injEq]

theorem lastIx_get {c : Nat} : ∀ {b : List Nat} {p : Nat}, b[p]? = some c → (p : Int) ≤ lastIx c b ∧ lastIx c b < b.length
  | a :: t, 0, h => by
    have h : a = c := by simpa using h
    have hb := lastIx_lt c t
    simp only [lastIx, h, List.length_cons, if_true]
    split <;> omega
  | a :: t, p + 1, h => by
    have := lastIx_get (b := t) (p := p) (by simpa using h)
    simp only [lastIx, List.length_cons]
    rw [if_pos (by omega)]
    omega
where lastIx_lt (c : Nat) : ∀ b : List Nat, -1 ≤ lastIx c b ∧ lastIx c b < b.length
  | [] => by simp [lastIx]
  | a :: t => by
    have := lastIx_lt c t
    simp only [lastIx, List.length_cons]
    split
    · omega
    · split <;> omega

theorem clear_of {b : List Nat} {k : Nat} (hk : k ≤ b.length) (h : ¬ (0 ≤ lastIx 37 (b.take k) ∧ (k : Int) - lastIx 37 (b.take k) ≤ 3)) : Clear b k := by
  intro p hp hk3 he
  have := lastIx_get (c := 37) (b := b.take k) (p := p) (by rw [List.getElem?_take]; simpa [hp] using he)
  omega

theorem str_len : ∀ l : List Int, (Ab.strOf l).size ≤ 4 * l.length
  | [] => by simp [Ab.strOf]
  | n :: l => by
    have h1 := str_len l
    have h2 : Ab.strOf (n :: l) = Ab.strOf [n] ++ Ab.strOf l := strOf_append [n] l
    have h3 : (Ab.strOf [n]).size ≤ 4 := by
      have : (Utf8.encode n).size ≤ 4 := by
        unfold Utf8.encode
        simp only
        repeat' split
        all_goals simp [ByteArray.size]
      simpa [Ab.strOf] using this
    rw [h2, ByteArray.size_append, List.length_cons]
    omega

set_option maxRecDepth 10000 in
theorem safeParts_pure (s : ByteArray) (hs : s.size ≤ 140737488351232) (cut : Int) (hc : 0 ≤ cut ∧ cut ≤ 65535) : Pure Try.prog 4 [.lit (.string s), .lit (.int .u16 cut)] [] (.lit (.bool true)) := by
  obtain ⟨b, rfl, hb, hbl⟩ := txt_of s
  refine pure0 Try.func4 c4 n4 e4 r4 (by simp) rfl ?_
  simp only [a4, astart, argSlots, txt_size, go_sem, Nat.reduceAdd, Nat.reduceEqDiff, Nat.reduceLT, reduceIte, reduceCtorEq, Nat.reduceBEq, Int.reduceLT, Int.reduceToNat, Int.reducePow, Nat.reduceLeDiff, Int.reduceLE, Nat.reduceMul, Nat.reduceSub]
  refine cGo_split (fun h => ?_) (fun h => ?_)
  · simp only [go_sem, Nat.reduceAdd, Nat.reduceEqDiff, Nat.reduceLT, reduceIte, reduceCtorEq, Nat.reduceBEq, Int.reduceLT, Int.reduceToNat, Int.reducePow, Nat.reduceLeDiff, Int.reduceLE, Nat.reduceMul, Nat.reduceSub]
    refine callGo_pure awake25_pure (by rfl) ?_
    simp only [go_sem, Nat.reduceAdd, Nat.reduceEqDiff, Nat.reduceLT, reduceIte, reduceCtorEq, Nat.reduceBEq, Int.reduceLT, Int.reduceToNat, Int.reducePow, Nat.reduceLeDiff, Int.reduceLE, Nat.reduceMul, Nat.reduceSub]
    simp only [Done, resAV, resL, resOne, look_nil, look_cons, Nat.reduceEqDiff, if_true, if_false, reduceIte, ite_true, ite_false, Nat.zero_ne_one, Nat.one_ne_zero, reduceCtorEq, true_or, or_true, true_and, Option.some.injEq, AV.lit.injEq, Value.int.injEq, Value.bool.injEq]
  · simp only [decide_eq_false_iff_not] at h
    have hl : b.length ≤ 300 := by omega
    obtain ⟨c, rfl⟩ : ∃ c : Nat, cut = (c : Int) := ⟨cut.toNat, by omega⟩
    have w1 : IntKind.i64.wrap (c : Int) = (c : Int) := wrap_i64 _ (by omega) (by omega)
    have w2 : IntKind.i64.wrap ((b.length : Int) + 1) = ((b.length + 1 : Nat) : Int) := by rw [wrap_i64 _ (by omega) (by omega)]; omega
    have h0 : (((b.length + 1 : Nat) : Int) = 0) = False := eq_false (by omega)
    have h1 : ((c : Nat) : Int).tmod ((b.length + 1 : Nat) : Int) = ((c % (b.length + 1) : Nat) : Int) := by
      rw [Int.tmod_eq_emod_of_nonneg (by omega)]; rfl
    have hk : c % (b.length + 1) ≤ b.length := by have := Nat.mod_lt c (show 0 < b.length + 1 by omega); omega
    generalize c % (b.length + 1) = k at h1 hk
    have hin1 : (if 0 ≤ k ∧ k ≤ b.length then some (0, k) else none : Option (Nat × Nat)) = some (0, k) := if_pos ⟨by omega, hk⟩
    have hin2 : (if k ≤ b.length ∧ b.length ≤ b.length then some (k, b.length) else none : Option (Nat × Nat)) = some (k, b.length) := if_pos ⟨hk, by omega⟩
    simp only [w1, w2, h0, h1, txt_size, hin1, txt_slice, List.drop_zero, go_sem, Nat.reduceAdd, Nat.reduceEqDiff, Nat.reduceLT, reduceIte, reduceCtorEq, Nat.reduceBEq, Int.reduceLT, Int.reduceToNat, Int.reducePow, Nat.reduceLeDiff, Int.reduceLE, Nat.reduceMul, Nat.reduceSub]
    have hbt : ∀ n ∈ b.take k, n ≤ 255 := fun n hn => hb n (List.mem_of_mem_take hn)
    have hbd : ∀ n ∈ b.drop k, n ≤ 255 := fun n hn => hb n (List.mem_of_mem_drop hn)
    have hlt : (b.take k).length ≤ 300 := by rw [List.length_take]; omega
    have hld : (b.drop k).length ≤ 300 := by rw [List.length_drop]; omega
    have hclear := clear_of (b := b) hk
    refine callGo_pure (lastIndex_pure (b.take k) 37 hbt (by omega)) (by rfl) ?_
    have hx := lastIx_get.lastIx_lt 37 (b.take k)
    generalize lastIx 37 (b.take k) = x at hclear hx
    have w3 : IntKind.i64.wrap ((k : Int) - x) = (k : Int) - x := wrap_i64 _ (by omega) (by omega)
    -- the rest, where no code is cut
    have rest : (Clear b k ∨ k = b.length) → Ab.strOf (rOf (showT 0 (b.take k))) ++ Ab.strOf (rOf (showT 0 (b.drop k))) = Ab.strOf (rOf (showT 0 b)) := by
      rintro (h1 | rfl)
      · rcases show_parts b k 0 h1 with h2 | h2
        · rw [← strOf_append, showT_R (b.drop k) 0 (0 + k), ← rOf_append, h2]
        · omega
      · rw [List.take_length, List.drop_length]
        simp [showT, showF, rOf, Ab.strOf]
    have hs1 := showT_len 0 (b.take k)
    have hs2 := showT_len 0 (b.drop k)
    have hs3 := showT_len 0 b
    have z1 := str_len (rOf (showT 0 (b.take k)))
    have z2 := str_len (rOf (showT 0 (b.drop k)))
    simp only [rOf, List.length_map] at z1 z2
    have hadd : ∀ (A B : ByteArray), A.size ≤ 1200 → B.size ≤ 1200 → (((A.size + B.size : Nat) : Int) > 9223372036854775807) = False := fun A B hA hB => eq_false (by omega)
    simp only [w3, go_sem, Nat.reduceAdd, Nat.reduceEqDiff, Nat.reduceLT, reduceIte, reduceCtorEq, Nat.reduceBEq, Int.reduceLT, Int.reduceToNat, Int.reducePow, Nat.reduceLeDiff, Int.reduceLE, Nat.reduceMul, Nat.reduceSub]
    have fin : (Clear b k ∨ k = b.length) → ∀ A, A = Ab.strOf (rOf (showT 0 (b.take k))) → ∀ B, B = Ab.strOf (rOf (showT 0 (b.drop k))) → A.size ≤ 1200 ∧ B.size ≤ 1200 ∧ ((A ++ B).toList == (Ab.strOf (rOf (showT 0 b))).toList) = true := by
      rintro h1 A rfl B rfl
      refine ⟨by simp only [rOf]; omega, by simp only [rOf]; omega, ?_⟩
      rw [rest h1]
      exact beq_self_eq_true _
    by_cases hx0 : x ≥ 0
    · by_cases hx3 : (k : Int) - x ≤ 3
      · by_cases hkl : (k : Int) < b.length
        · simp only [w3, decide_eq_true hx0, decide_eq_true hx3, decide_eq_true hkl, txt_size, go_sem, Nat.reduceAdd, Nat.reduceEqDiff, Nat.reduceLT, reduceIte, reduceCtorEq, Nat.reduceBEq, Int.reduceLT, Int.reduceToNat, Int.reducePow, Nat.reduceLeDiff, Int.reduceLE, Nat.reduceMul, Nat.reduceSub]
          refine callGo_pure awake25_pure (by rfl) ?_
          simp only [go_sem, Nat.reduceAdd, Nat.reduceEqDiff, Nat.reduceLT, reduceIte, reduceCtorEq, Nat.reduceBEq, Int.reduceLT, Int.reduceToNat, Int.reducePow, Nat.reduceLeDiff, Int.reduceLE, Nat.reduceMul, Nat.reduceSub]
          simp only [Done, resAV, resL, resOne, look_nil, look_cons, Nat.reduceEqDiff, if_true, if_false, reduceIte, ite_true, ite_false, Nat.zero_ne_one, Nat.one_ne_zero, reduceCtorEq, true_or, or_true, true_and, Option.some.injEq, AV.lit.injEq, Value.int.injEq, Value.bool.injEq]
        · have d3 : decide ((k : Int) < b.length) = false := by simpa using hkl
          simp only [w3, decide_eq_true hx0, decide_eq_true hx3, d3, txt_size, go_sem, Nat.reduceAdd, Nat.reduceEqDiff, Nat.reduceLT, reduceIte, reduceCtorEq, Nat.reduceBEq, Int.reduceLT, Int.reduceToNat, Int.reducePow, Nat.reduceLeDiff, Int.reduceLE, Nat.reduceMul, Nat.reduceSub]
          obtain ⟨fA, fB, fAB⟩ := fin (.inr (by omega)) _ rfl _ rfl
          simp only [hin1, txt_slice, List.drop_zero, go_sem, Nat.reduceAdd, Nat.reduceEqDiff, Nat.reduceLT, reduceIte, reduceCtorEq, Nat.reduceBEq, Int.reduceLT, Int.reduceToNat, Int.reducePow, Nat.reduceLeDiff, Int.reduceLE, Nat.reduceMul, Nat.reduceSub]
          refine dcallGo_pure (show_pure (b.take k) hbt (by omega)) (by rfl) rfl ?_
          simp only [go_sem, Nat.reduceAdd, Nat.reduceEqDiff, Nat.reduceLT, reduceIte, reduceCtorEq, Nat.reduceBEq, Int.reduceLT, Int.reduceToNat, Int.reducePow, Nat.reduceLeDiff, Int.reduceLE, Nat.reduceMul, Nat.reduceSub]
          refine dcallGo_pure (safeRunes_pure (showT 0 (b.take k)) (by omega)) (by rfl) rfl ?_
          simp only [runesOf_runes, hin2, txt_size, txt_tail, go_sem, Nat.reduceAdd, Nat.reduceEqDiff, Nat.reduceLT, reduceIte, reduceCtorEq, Nat.reduceBEq, Int.reduceLT, Int.reduceToNat, Int.reducePow, Nat.reduceLeDiff, Int.reduceLE, Nat.reduceMul, Nat.reduceSub]
          refine dcallGo_pure (show_pure (b.drop k) hbd (by omega)) (by rfl) rfl ?_
          simp only [go_sem, Nat.reduceAdd, Nat.reduceEqDiff, Nat.reduceLT, reduceIte, reduceCtorEq, Nat.reduceBEq, Int.reduceLT, Int.reduceToNat, Int.reducePow, Nat.reduceLeDiff, Int.reduceLE, Nat.reduceMul, Nat.reduceSub]
          refine dcallGo_pure (safeRunes_pure (showT 0 (b.drop k)) (by omega)) (by rfl) rfl ?_
          simp only [runesOf_runes, binStr, hadd _ _ fA fB, go_sem, Nat.reduceAdd, Nat.reduceEqDiff, Nat.reduceLT, reduceIte, reduceCtorEq, Nat.reduceBEq, Int.reduceLT, Int.reduceToNat, Int.reducePow, Nat.reduceLeDiff, Int.reduceLE, Nat.reduceMul, Nat.reduceSub]
          refine dcallGo_pure (show_pure b hb (by omega)) (by rfl) rfl ?_
          simp only [go_sem, Nat.reduceAdd, Nat.reduceEqDiff, Nat.reduceLT, reduceIte, reduceCtorEq, Nat.reduceBEq, Int.reduceLT, Int.reduceToNat, Int.reducePow, Nat.reduceLeDiff, Int.reduceLE, Nat.reduceMul, Nat.reduceSub]
          refine dcallGo_pure (safeRunes_pure (showT 0 b) (by omega)) (by rfl) rfl ?_
          simp only [runesOf_runes, binStr, fAB, go_sem, Nat.reduceAdd, Nat.reduceEqDiff, Nat.reduceLT, reduceIte, reduceCtorEq, Nat.reduceBEq, Int.reduceLT, Int.reduceToNat, Int.reducePow, Nat.reduceLeDiff, Int.reduceLE, Nat.reduceMul, Nat.reduceSub]
          refine dcallGo_pure awake25_pure (by rfl) rfl ?_
          simp only [go_sem, Nat.reduceAdd, Nat.reduceEqDiff, Nat.reduceLT, reduceIte, reduceCtorEq, Nat.reduceBEq, Int.reduceLT, Int.reduceToNat, Int.reducePow, Nat.reduceLeDiff, Int.reduceLE, Nat.reduceMul, Nat.reduceSub]
          simp only [Done, resAV, resL, resOne, look_nil, look_cons, Nat.reduceEqDiff, if_true, if_false, reduceIte, ite_true, ite_false, Nat.zero_ne_one, Nat.one_ne_zero, reduceCtorEq, true_or, or_true, true_and, Option.some.injEq, AV.lit.injEq, Value.int.injEq, Value.bool.injEq]
      · have d2 : decide ((k : Int) - x ≤ 3) = false := by simpa using hx3
        simp only [w3, decide_eq_true hx0, d2, txt_size, go_sem, Nat.reduceAdd, Nat.reduceEqDiff, Nat.reduceLT, reduceIte, reduceCtorEq, Nat.reduceBEq, Int.reduceLT, Int.reduceToNat, Int.reducePow, Nat.reduceLeDiff, Int.reduceLE, Nat.reduceMul, Nat.reduceSub]
        obtain ⟨fA, fB, fAB⟩ := fin (.inl (hclear (by omega))) _ rfl _ rfl
        simp only [hin1, txt_slice, List.drop_zero, go_sem, Nat.reduceAdd, Nat.reduceEqDiff, Nat.reduceLT, reduceIte, reduceCtorEq, Nat.reduceBEq, Int.reduceLT, Int.reduceToNat, Int.reducePow, Nat.reduceLeDiff, Int.reduceLE, Nat.reduceMul, Nat.reduceSub]
        refine dcallGo_pure (show_pure (b.take k) hbt (by omega)) (by rfl) rfl ?_
        simp only [go_sem, Nat.reduceAdd, Nat.reduceEqDiff, Nat.reduceLT, reduceIte, reduceCtorEq, Nat.reduceBEq, Int.reduceLT, Int.reduceToNat, Int.reducePow, Nat.reduceLeDiff, Int.reduceLE, Nat.reduceMul, Nat.reduceSub]
        refine dcallGo_pure (safeRunes_pure (showT 0 (b.take k)) (by omega)) (by rfl) rfl ?_
        simp only [runesOf_runes, hin2, txt_size, txt_tail, go_sem, Nat.reduceAdd, Nat.reduceEqDiff, Nat.reduceLT, reduceIte, reduceCtorEq, Nat.reduceBEq, Int.reduceLT, Int.reduceToNat, Int.reducePow, Nat.reduceLeDiff, Int.reduceLE, Nat.reduceMul, Nat.reduceSub]
        refine dcallGo_pure (show_pure (b.drop k) hbd (by omega)) (by rfl) rfl ?_
        simp only [go_sem, Nat.reduceAdd, Nat.reduceEqDiff, Nat.reduceLT, reduceIte, reduceCtorEq, Nat.reduceBEq, Int.reduceLT, Int.reduceToNat, Int.reducePow, Nat.reduceLeDiff, Int.reduceLE, Nat.reduceMul, Nat.reduceSub]
        refine dcallGo_pure (safeRunes_pure (showT 0 (b.drop k)) (by omega)) (by rfl) rfl ?_
        simp only [runesOf_runes, binStr, hadd _ _ fA fB, go_sem, Nat.reduceAdd, Nat.reduceEqDiff, Nat.reduceLT, reduceIte, reduceCtorEq, Nat.reduceBEq, Int.reduceLT, Int.reduceToNat, Int.reducePow, Nat.reduceLeDiff, Int.reduceLE, Nat.reduceMul, Nat.reduceSub]
        refine dcallGo_pure (show_pure b hb (by omega)) (by rfl) rfl ?_
        simp only [go_sem, Nat.reduceAdd, Nat.reduceEqDiff, Nat.reduceLT, reduceIte, reduceCtorEq, Nat.reduceBEq, Int.reduceLT, Int.reduceToNat, Int.reducePow, Nat.reduceLeDiff, Int.reduceLE, Nat.reduceMul, Nat.reduceSub]
        refine dcallGo_pure (safeRunes_pure (showT 0 b) (by omega)) (by rfl) rfl ?_
        simp only [runesOf_runes, binStr, fAB, go_sem, Nat.reduceAdd, Nat.reduceEqDiff, Nat.reduceLT, reduceIte, reduceCtorEq, Nat.reduceBEq, Int.reduceLT, Int.reduceToNat, Int.reducePow, Nat.reduceLeDiff, Int.reduceLE, Nat.reduceMul, Nat.reduceSub]
        refine dcallGo_pure awake25_pure (by rfl) rfl ?_
        simp only [go_sem, Nat.reduceAdd, Nat.reduceEqDiff, Nat.reduceLT, reduceIte, reduceCtorEq, Nat.reduceBEq, Int.reduceLT, Int.reduceToNat, Int.reducePow, Nat.reduceLeDiff, Int.reduceLE, Nat.reduceMul, Nat.reduceSub]
        simp only [Done, resAV, resL, resOne, look_nil, look_cons, Nat.reduceEqDiff, if_true, if_false, reduceIte, ite_true, ite_false, Nat.zero_ne_one, Nat.one_ne_zero, reduceCtorEq, true_or, or_true, true_and, Option.some.injEq, AV.lit.injEq, Value.int.injEq, Value.bool.injEq]
    · have d1 : decide (x ≥ 0) = false := by simpa using hx0
      simp only [d1, txt_size, go_sem, Nat.reduceAdd, Nat.reduceEqDiff, Nat.reduceLT, reduceIte, reduceCtorEq, Nat.reduceBEq, Int.reduceLT, Int.reduceToNat, Int.reducePow, Nat.reduceLeDiff, Int.reduceLE, Nat.reduceMul, Nat.reduceSub]
      obtain ⟨fA, fB, fAB⟩ := fin (.inl (hclear (by omega))) _ rfl _ rfl
      simp only [hin1, txt_slice, List.drop_zero, go_sem, Nat.reduceAdd, Nat.reduceEqDiff, Nat.reduceLT, reduceIte, reduceCtorEq, Nat.reduceBEq, Int.reduceLT, Int.reduceToNat, Int.reducePow, Nat.reduceLeDiff, Int.reduceLE, Nat.reduceMul, Nat.reduceSub]
      refine dcallGo_pure (show_pure (b.take k) hbt (by omega)) (by rfl) rfl ?_
      simp only [go_sem, Nat.reduceAdd, Nat.reduceEqDiff, Nat.reduceLT, reduceIte, reduceCtorEq, Nat.reduceBEq, Int.reduceLT, Int.reduceToNat, Int.reducePow, Nat.reduceLeDiff, Int.reduceLE, Nat.reduceMul, Nat.reduceSub]
      refine dcallGo_pure (safeRunes_pure (showT 0 (b.take k)) (by omega)) (by rfl) rfl ?_
      simp only [runesOf_runes, hin2, txt_size, txt_tail, go_sem, Nat.reduceAdd, Nat.reduceEqDiff, Nat.reduceLT, reduceIte, reduceCtorEq, Nat.reduceBEq, Int.reduceLT, Int.reduceToNat, Int.reducePow, Nat.reduceLeDiff, Int.reduceLE, Nat.reduceMul, Nat.reduceSub]
      refine dcallGo_pure (show_pure (b.drop k) hbd (by omega)) (by rfl) rfl ?_
      simp only [go_sem, Nat.reduceAdd, Nat.reduceEqDiff, Nat.reduceLT, reduceIte, reduceCtorEq, Nat.reduceBEq, Int.reduceLT, Int.reduceToNat, Int.reducePow, Nat.reduceLeDiff, Int.reduceLE, Nat.reduceMul, Nat.reduceSub]
      refine dcallGo_pure (safeRunes_pure (showT 0 (b.drop k)) (by omega)) (by rfl) rfl ?_
      simp only [runesOf_runes, binStr, hadd _ _ fA fB, go_sem, Nat.reduceAdd, Nat.reduceEqDiff, Nat.reduceLT, reduceIte, reduceCtorEq, Nat.reduceBEq, Int.reduceLT, Int.reduceToNat, Int.reducePow, Nat.reduceLeDiff, Int.reduceLE, Nat.reduceMul, Nat.reduceSub]
      refine dcallGo_pure (show_pure b hb (by omega)) (by rfl) rfl ?_
      simp only [go_sem, Nat.reduceAdd, Nat.reduceEqDiff, Nat.reduceLT, reduceIte, reduceCtorEq, Nat.reduceBEq, Int.reduceLT, Int.reduceToNat, Int.reducePow, Nat.reduceLeDiff, Int.reduceLE, Nat.reduceMul, Nat.reduceSub]
      refine dcallGo_pure (safeRunes_pure (showT 0 b) (by omega)) (by rfl) rfl ?_
      simp only [runesOf_runes, binStr, fAB, go_sem, Nat.reduceAdd, Nat.reduceEqDiff, Nat.reduceLT, reduceIte, reduceCtorEq, Nat.reduceBEq, Int.reduceLT, Int.reduceToNat, Int.reducePow, Nat.reduceLeDiff, Int.reduceLE, Nat.reduceMul, Nat.reduceSub]
      refine dcallGo_pure awake25_pure (by rfl) rfl ?_
      simp only [go_sem, Nat.reduceAdd, Nat.reduceEqDiff, Nat.reduceLT, reduceIte, reduceCtorEq, Nat.reduceBEq, Int.reduceLT, Int.reduceToNat, Int.reducePow, Nat.reduceLeDiff, Int.reduceLE, Nat.reduceMul, Nat.reduceSub]
      simp only [Done, resAV, resL, resOne, look_nil, look_cons, Nat.reduceEqDiff, if_true, if_false, reduceIte, ite_true, ite_false, Nat.zero_ne_one, Nat.one_ne_zero, reduceCtorEq, true_or, or_true, true_and, Option.some.injEq, AV.lit.injEq, Value.int.injEq, Value.bool.injEq]

theorem safeParts_any (avs : List AV) (h : Args Try.prog Try.f4.params.toList avs) : Pure Try.prog 4 avs [] (.lit (.bool true)) := by
  have hp : Try.f4.params.toList = [9, 31] := by kernel_rfl
  rw [hp] at h
  obtain ⟨av0, rest0, rfl, a0, h0⟩ := h
  obtain ⟨av1, rest1, rfl, a1, rfl⟩ := h0
  obtain ⟨z0, rfl, w0⟩ := arg_str (by kernel_rfl) a0
  obtain ⟨z1, rfl, w1⟩ := arg_int (k := .u16) (by kernel_rfl) a1
  exact safeParts_pure z0 w0 z1 (by simpa [Lit.wf, IntKind.min, IntKind.max, IntKind.signed, IntKind.bits] using w1)

set_option maxRecDepth 100000 in
theorem safeParts_lifted (os : Os) (started : os.Started) (H : Type) (enc : TypeId × Value → H) :
    ReturnsInHanded {} Try.checked os 4 .any (Rows.safePartsSpec.pre6 enc Try.prog Try.f4 Rows.safePartsRow.domain false) (Rows.safePartsSpec.post enc Try.prog Try.f4 false true false false) := by
  refine law_returns (C := Try.checked) (tb := 4) (by kernel_rfl) started (by kernel_rfl) Try.func4
    (ChangeSpec.witness6 (enc := enc) (C := Try.checked) false ⟨#[], #[.string ⟨#[]⟩, .int .u16 0], []⟩ 8 (by kernel_rfl) (by kernel_rfl) (by kernel_rfl) (by kernel_rfl))
    (by kernel_rfl) (by kernel_rfl) rfl rfl (by kernel_rfl) (by kernel_rfl) ?_ safeParts_any
  intro ds hds
  have hp : Try.f4.params.toList = [9, 31] := by kernel_rfl
  rw [hp] at hds
  match ds, hds with
  | [d0, d1], _ => exact ⟨rfl, rfl, rfl⟩

theorem safeParts_holds : Rows.SafePartsSaid :=
  OpenClaim.holds_of_wide 4 Try.f4 rfl rfl rfl rfl rfl rfl rfl ⟨rfl, rfl, rfl, rfl, rfl⟩ rfl rfl rfl rfl rfl (by kernel_rfl) Try.func4 (by kernel_rfl)
    (of_decide_eq_true (by kernel_rfl)) (by unfold Func.isWrapper; first | (rw [if_pos (by decide +kernel)]; kernel_rfl) | (rw [if_neg (by decide +kernel)]; exact ⟨rfl, rfl⟩))
    (fun os started H enc _ => safeParts_lifted os started H enc)
end Go.Proofs.Yteekelelcbfekaa
