/-
The laws of what is shown. Conditions: none.
-/
import Derived.Test.YteekelelcbfekaaDoorSaMd
set_option linter.unusedSimpArgs false
set_option linter.unusedVariables false
set_option linter.unusedSectionVars false

/-! ## SafFD -/

namespace Go.Proofs.YteekelelcbfekaaDoor
open Go Go.Ab Go.ChangeShapes Go.WideShapes Go.ChangeAt Go.RowKit
def a20 : ACode :=
  (.seq (.reg [⟨(.some 4), (.mv (.k (.int .i64 0))), .none⟩]) (.seq (.seq (.reg [⟨(.some 6), (.mv (.t 0)), .none⟩, ⟨(.some 7), (.lenS (.t 6)), .none⟩, ⟨(.some 8), (.bin .sub (.t 7) (.k (.int .i64 1))),
  .none⟩, ⟨(.some 5), (.mv (.t 8)), .none⟩]) (.block 0 (.loop (.seq (.seq (.reg [⟨(.some 9), (.mv (.t 5)), .none⟩, ⟨(.some 10), (.bin .geq (.t 9) (.k (.int .i64 0))), .none⟩]) (.cond (.t 10) .skip
  (.exit 0))) (.seq (.block 1 (.seq (.reg [⟨(.some 13), (.mv (.t 0)), .none⟩, ⟨(.some 14), (.mv (.t 5)), .none⟩, ⟨(.some 15), (.ixS (.t 13) (.t 14)), .none⟩, ⟨(.some 16), (.mv (.t 1)), .none⟩, ⟨(.some
  17), (.bin .eql (.t 15) (.t 16)), .none⟩]) (.cond (.t 17) (.seq (.reg [⟨(.some 18), (.mv (.t 5)), .none⟩, ⟨(.some 4), (.mv (.t 18)), .none⟩]) .ret) .skip))) (.reg [⟨(.some 11), (.mv (.t 5)), .none⟩,
  ⟨(.some 12), (.bin .sub (.t 11) (.k (.int .i64 1))), .none⟩, ⟨(.some 5), (.mv (.t 12)), .none⟩])))))) (.seq (.reg [⟨(.some 4), (.mv (.k (.int .i64 (-1)))), .none⟩]) .ret)))
theorem c20 : Tryd.f20.body.bind (cCode Tryd.prog 19) = some a20 := by kernel_rfl
theorem r20 : Tryd.f20.results.toList = [(.tmp 4)] := by kernel_rfl
theorem n20 : Tryd.f20.ntmps = 19 := by kernel_rfl
theorem e20 : Enters Tryd.prog 20 := Go.Ab.enters_of Tryd.func20 (by kernel_rfl) (by kernel_rfl)
def a9 : ACode :=
  (.seq (.reg [⟨(.some 4), (.mv (.k (.int .i64 0))), .none⟩]) (.seq (.reg [⟨(.some 5), (.mv (.t 0)), .none⟩, ⟨(.some 6), (.mv (.t 1)), .none⟩, ⟨(.some 7), (.call (.f 20) [(.t 5), (.t 6)]), .none⟩,
  ⟨(.some 4), (.mv (.t 7)), .none⟩]) .ret))
theorem c9 : Tryd.f9.body.bind (cCode Tryd.prog 8) = some a9 := by kernel_rfl
theorem r9 : Tryd.f9.results.toList = [(.tmp 4)] := by kernel_rfl
theorem n9 : Tryd.f9.ntmps = 8 := by kernel_rfl
theorem e9 : Enters Tryd.prog 9 := Go.Ab.enters_of Tryd.func9 (by kernel_rfl) (by kernel_rfl)
/-! ### Places say nothing of code points -/

theorem eachT_R : ∀ (i j : Nat) (b : List Nat), rOf (eachT i b) = rOf (eachT j b)
  | _, _, [] => rfl
  | i, j, c :: t => by
    have := eachT_R (i + 1) (j + 1) t
    simp only [rOf] at this
    simp only [eachT, rOf, List.map_cons, oneT, this]
theorem sayT_R (b : List Nat) (i j : Nat) (x : Nat × Nat × Nat × Bool) : rOf (sayT b i x) = rOf (sayT b j x) := by
  unfold sayT
  split
  · rfl
  · exact eachT_R _ _ _
theorem rOf_append (a b : List T3) : rOf (a ++ b) = rOf a ++ rOf b := by simp [rOf]
theorem saidT_R (i j : Nat) (b : List Nat) : rOf (saidT i b) = rOf (saidT j b) := by
  unfold saidT
  generalize cut 0 (decP b) = l
  induction l with
  | nil => simp only [List.flatMap_nil]
  | cons x l ih => rw [List.flatMap_cons, List.flatMap_cons, rOf_append, rOf_append, ih, sayT_R b i j]
theorem showT_R (b : List Nat) : ∀ i j : Nat, rOf (showT i b) = rOf (showT j b) := by
  have key : ∀ (f : Nat) (b : List Nat), b.length ≤ f → ∀ i j : Nat, rOf (showT i b) = rOf (showT j b) := by
    intro f
    induction f with
    | zero => intro b h i j; have : b = [] := List.eq_nil_of_length_eq_zero (by omega)
              subst this; rfl
    | succ f ih =>
      intro b h i j
      cases hc : isC b
      · cases b with
        | nil => rfl
        | cons c t =>
          rw [showT_one hc, showT_one hc]
          have := ih t (by simpa using h) (i + 1) (j + 1)
          simp only [rOf] at this
          simp only [rOf, List.map_cons, oneT, this]
      · have h3 := isC_len hc
        have hp := rowN_pos.2 hc
        rw [showT_row hc, showT_row hc, rOf_append, rOf_append, saidT_R i j, ih (b.drop (3 * rowN b)) (by simp only [List.length_drop]; omega) _ (j + 3 * rowN b)]
  exact key _ b (Nat.le_refl _)

/-! ### In two parts -/

/-- No code ends at a place, or beyond it. -/
def Clear (b : List Nat) (k : Nat) : Prop := ∀ p, p < k → k ≤ p + 3 → b[p]? ≠ some 37
theorem Clear.tail {c : Nat} {t : List Nat} {k : Nat} (h : Clear (c :: t) (k + 1)) : Clear t k := fun p hp hk => by
  have := h (p + 1) (by omega) (by omega)
  simpa using this
theorem Clear.drop {b : List Nat} {k n : Nat} (h : Clear b (n + k)) : Clear (b.drop n) k := fun p hp hk => by
  have := h (n + p) (by omega) (by omega)
  rw [List.getElem?_drop]
  exact this
theorem isC_first {b : List Nat} (h : isC b = true) : b[0]? = some 37 := by
  match b, h with
  | a :: x :: y :: t, h => simp only [isC, Bool.and_eq_true, beq_iff_eq] at h; simp [h.1]
theorem isC_take' {b : List Nat} {k : Nat} (h : Clear b k) : isC (b.take k) = isC b ∨ k = 0 := by
  rcases Nat.eq_zero_or_pos k with h0 | h0
  · exact .inr h0
  rcases Nat.lt_or_ge k 3 with h3 | h3
  · left
    rw [isC_short (by rw [List.length_take]; omega)]
    cases hc : isC b
    · rfl
    · exact absurd (isC_first hc) (h 0 h0 (by omega))
  · exact .inl (isC_take h3)
theorem row_clear : ∀ (f : Nat) (b : List Nat) (k : Nat), b.length ≤ f → 0 < k → Clear b k → isC b = true → 3 * rowN b < k ∧ rowN (b.take k) = rowN b
  | 0, b, k, hf, _, _, hc => by have := isC_len hc; omega
  | f + 1, b, k, hf, hk, h, hc => by
    have h3 := isC_len hc
    have hk3 : 3 < k := by
      rcases Nat.lt_or_ge 3 k with h4 | h4
      · exact h4
      · exact absurd (isC_first hc) (h 0 hk (by omega))
    have ht : isC (b.take k) = true := by rw [isC_take (by omega)]; exact hc
    have hd : (b.take k).drop 3 = (b.drop 3).take (k - 3) := List.drop_take
    have hcl : Clear (b.drop 3) (k - 3) := Clear.drop (by rw [show 3 + (k - 3) = k by omega]; exact h)
    rw [rowN_code hc, rowN_code ht, hd]
    cases hc3 : isC (b.drop 3)
    · rw [rowN_plain hc3]
      have : isC ((b.drop 3).take (k - 3)) = false := by
        rcases isC_take' hcl with e | e
        · rw [e]; exact hc3
        · omega
      rw [rowN_plain this]
      omega
    · obtain ⟨g1, g2⟩ := row_clear f (b.drop 3) (k - 3) (by rw [List.length_drop]; omega) (by omega) hcl hc3
      rw [g2]
      omega
theorem show_parts (b : List Nat) (k at_ : Nat) (h : Clear b k) : showT at_ (b.take k) ++ showT (at_ + k) (b.drop k) = showT at_ b ∨ b.length < k := by
  have key : ∀ (f : Nat) (b : List Nat) (k at_ : Nat), b.length ≤ f → Clear b k → k ≤ b.length → showT at_ (b.take k) ++ showT (at_ + k) (b.drop k) = showT at_ b := by
    intro f
    induction f with
    | zero =>
      intro b k at_ hf _ hk
      have : b = [] := List.eq_nil_of_length_eq_zero (by omega)
      subst this
      simp only [List.length_nil] at hk
      have : k = 0 := by omega
      subst this; rfl
    | succ f ih =>
      intro b k at_ hf h hk
      cases k with
      | zero => rfl
      | succ k =>
        have ht : isC (b.take (k + 1)) = isC b := by
          rcases isC_take' h with e | e
          · exact e
          · omega
        cases hc : isC b
        · cases b with
          | nil => simp at hk
          | cons c t =>
            rw [hc] at ht
            simp only [List.take_succ_cons] at ht
            have := ih t k (at_ + 1) (by simpa using hf) h.tail (by simpa using hk)
            rw [List.take_succ_cons, List.drop_succ_cons, showT_one ht, showT_one hc, List.cons_append, show at_ + (k + 1) = at_ + 1 + k by omega, this]
        · rw [hc] at ht
          obtain ⟨g1, g2⟩ := row_clear _ b (k + 1) (Nat.le_refl _) (by omega) h hc
          have hp := rowN_pos.2 hc
          have hn := rowN_le b
          have := ih (b.drop (3 * rowN b)) (k + 1 - 3 * rowN b) (at_ + 3 * rowN b) (by rw [List.length_drop]; omega) (Clear.drop (by rw [show 3 * rowN b + (k + 1 - 3 * rowN b) = k + 1 by omega]; exact h)) (by rw [List.length_drop]; omega)
          rw [List.drop_drop, show 3 * rowN b + (k + 1 - 3 * rowN b) = k + 1 by omega, show at_ + 3 * rowN b + (k + 1 - 3 * rowN b) = at_ + (k + 1) by omega] at this
          rw [showT_row ht, showT_row hc, g2, List.take_take, Nat.min_eq_left (by omega), List.drop_take, List.append_assoc, this]
  rcases Nat.lt_or_ge b.length k with h1 | h1
  · exact .inr h1
  · exact .inl (key _ b k at_ (Nat.le_refl _) h h1)

theorem strOf_append (a b : List Int) : Ab.strOf (a ++ b) = Ab.strOf a ++ Ab.strOf b := by
  unfold Ab.strOf
  rw [List.foldl_append]
  have key : ∀ (l : List Int) (x : ByteArray), l.foldl (fun r n => r ++ Utf8.encode n) x = x ++ l.foldl (fun r n => r ++ Utf8.encode n) ByteArray.empty := by
    intro l
    induction l with
    | nil => intro x; simp
    | cons n l ih =>
      intro x
      simp only [List.foldl_cons]
      rw [ih (x ++ Utf8.encode n), ih (ByteArray.empty ++ Utf8.encode n)]
      simp [ByteArray.append_assoc]
  exact key b _

/-! ### The walk -/

/-- The last place of a byte. -/
def lastIx (c : Nat) : List Nat → Int
  | [] => -1
  | a :: t => if 0 ≤ lastIx c t then lastIx c t + 1 else if a = c then 0 else -1

theorem lastIx_none {c : Nat} {b : List Nat} (h : ∀ n ∈ b, n ≠ c) : lastIx c b = -1 := by
  induction b with
  | nil => rfl
  | cons a t ih =>
    have := ih fun n hn => h n (List.mem_cons_of_mem _ hn)
    simp [lastIx, this, h a (by simp)]
theorem lastIx_at {c : Nat} : ∀ {b : List Nat} {i : Nat} (h : i < b.length), b[i] = c → (∀ j (hj : j < b.length), i < j → b[j] ≠ c) → lastIx c b = (i : Int)
  | a :: t, 0, h, h1, h2 => by
    have : lastIx c t = -1 := lastIx_none fun n hn => by
      obtain ⟨j, hj, rfl⟩ := List.getElem_of_mem hn
      have := h2 (j + 1) (by simp only [List.length_cons]; omega) (by omega)
      simpa using this
    have h1 : a = c := by simpa using h1
    simp [lastIx, this, h1]
  | a :: t, i + 1, h, h1, h2 => by
    have := lastIx_at (b := t) (i := i) (by simpa using h) (by simpa using h1) fun j hj hij => by
      have := h2 (j + 1) (by simp only [List.length_cons]; omega) (by omega)
      simpa using this
    simp only [lastIx, this]
    rw [if_pos (by omega)]
    omega

set_option maxRecDepth 10000 in
theorem lastLite_pure (b : List Nat) (c : Nat) (hb : ∀ n ∈ b, n ≤ 255) (hl : b.length ≤ 1099511627776) : Pure Tryd.prog 20 [.lit (.string (txt b)), .lit (.int .u8 (c : Int))] [] (.lit (.int .i64 (lastIx c b))) := by
  refine pure0 Tryd.func20 c20 n20 e20 r20 (by simp) rfl ?_
  have w0 : IntKind.i64.wrap ((b.length : Int) - 1) = (b.length : Int) - 1 := wrap_i64 _ (by omega) (by omega)
  simp only [a20, astart, argSlots, txt_size, w0, go_sem, Nat.reduceAdd, Nat.reduceEqDiff, Nat.reduceLT, reduceIte, reduceCtorEq, Nat.reduceBEq, Int.reduceLT, Int.reduceToNat, Int.reducePow, Nat.reduceLeDiff, Int.reduceLE, Nat.reduceMul, Nat.reduceSub]
  refine loop_to b.length (fun k => ⟨[(0, some (.lit (.string (txt b)))), (1, some (.lit (.int .u8 (c : Int)))), (5, some (.lit (.int .i64 ((b.length : Int) - 1 - (k : Int)))))], [], [], 0⟩)
    (fun k => ∀ j (hj : j < b.length), b.length ≤ j + k → b[j] ≠ c) (weak_by [] List.nodup_nil rfl ?_ trivial trivial (by simp)) (fun j hj h => by omega) ?_ ?_
  · simp only [go_sem, Nat.reduceAdd, Nat.reduceEqDiff, Nat.reduceLT, reduceIte, reduceCtorEq, Nat.reduceBEq, Int.reduceLT, Int.reduceToNat, Int.reducePow, Nat.reduceLeDiff, Int.reduceLE, Nat.reduceMul, Nat.reduceSub, slotsBy, boxesBy, tipsBy, rawAt, nm, AV.ren, AV.renL, AV.under, AV.underL, List.all_nil, List.all_cons, bne_self_eq_false, List.getD_cons_zero, List.getD_cons_succ, List.length_nil, List.length_cons, and_true, true_and, Int.natCast_zero, Int.sub_zero]
  · intro k hk hp
    have e : (b.length : Int) - 1 - (k : Int) = ((b.length - 1 - k : Nat) : Int) := by omega
    have w1 : IntKind.i64.wrap (((b.length - 1 - k : Nat) : Int) - 1) = (b.length : Int) - 1 - ((k + 1 : Nat) : Int) := by rw [wrap_i64 _ (by omega) (by omega)]; omega
    have hlt : b.length - 1 - k < b.length := by omega
    have hbi := hb b[b.length - 1 - k] (List.getElem_mem hlt)
    simp only [e, dec_nonneg, txt_get hlt, u8_int hbi, go_sem, Nat.reduceAdd, Nat.reduceEqDiff, Nat.reduceLT, reduceIte, reduceCtorEq, Nat.reduceBEq, Int.reduceLT, Int.reduceToNat, Int.reducePow, Nat.reduceLeDiff, Int.reduceLE, Nat.reduceMul, Nat.reduceSub]
    refine cGo_split (fun h => ?_) (fun h => ?_)
    · simp only [beq_iff_eq, Int.natCast_inj] at h
      have := lastIx_at hlt h fun j hj hlt3 => hp j hj (by omega)
      rw [this]
      simp only [go_sem, Nat.reduceAdd, Nat.reduceEqDiff, Nat.reduceLT, reduceIte, reduceCtorEq, Nat.reduceBEq, Int.reduceLT, Int.reduceToNat, Int.reducePow, Nat.reduceLeDiff, Int.reduceLE, Nat.reduceMul, Nat.reduceSub]
      simp only [Done, resAV, resL, resOne, look_nil, look_cons, Nat.reduceEqDiff, if_true, if_false, reduceIte, ite_true, ite_false, Nat.zero_ne_one, Nat.one_ne_zero, reduceCtorEq, true_or, or_true, true_and, Option.some.injEq, AV.lit.injEq, Value.int.injEq, Value.bool.injEq]
    · simp only [beq_eq_false_iff_ne, ne_eq, Int.natCast_inj] at h
      simp only [w1, go_sem, Nat.reduceAdd, Nat.reduceEqDiff, Nat.reduceLT, reduceIte, reduceCtorEq, Nat.reduceBEq, Int.reduceLT, Int.reduceToNat, Int.reducePow, Nat.reduceLeDiff, Int.reduceLE, Nat.reduceMul, Nat.reduceSub]
      refine ⟨weak_by [] List.nodup_nil rfl ?_ trivial trivial (by simp), fun j hj hlt2 => ?_⟩
      · simp only [go_sem, Nat.reduceAdd, Nat.reduceEqDiff, Nat.reduceLT, reduceIte, reduceCtorEq, Nat.reduceBEq, Int.reduceLT, Int.reduceToNat, Int.reducePow, Nat.reduceLeDiff, Int.reduceLE, Nat.reduceMul, Nat.reduceSub, slotsBy, boxesBy, tipsBy, rawAt, nm, AV.ren, AV.renL, AV.under, AV.underL, List.all_nil, List.all_cons, bne_self_eq_false, List.getD_cons_zero, List.getD_cons_succ, List.length_nil, List.length_cons, and_true, true_and]
      · rcases Nat.lt_or_ge (b.length - 1 - k) j with h1 | h1
        · exact hp j hj (by omega)
        · have : j = b.length - 1 - k := by omega
          subst this; exact h
  · intro hp
    have e : decide ((b.length : Int) - 1 - ((b.length : Nat) : Int) ≥ 0) = false := by simp only [decide_eq_false_iff_not]; omega
    have := lastIx_none (c := c) (b := b) fun n hn => by
      obtain ⟨j, hj, rfl⟩ := List.getElem_of_mem hn
      exact hp j hj (by omega)
    rw [this]
    simp only [e, go_sem, Nat.reduceAdd, Nat.reduceEqDiff, Nat.reduceLT, reduceIte, reduceCtorEq, Nat.reduceBEq, Int.reduceLT, Int.reduceToNat, Int.reducePow, Nat.reduceLeDiff, Int.reduceLE, Nat.reduceMul, Nat.reduceSub]
    simp only [Done, resAV, resL, resOne, look_nil, look_cons, Nat.reduceEqDiff, if_true, if_false, reduceIte, ite_true, ite_false, Nat.zero_ne_one, Nat.one_ne_zero, reduceCtorEq, true_or, or_true, true_and, Option.some.injEq, AV.lit.injEq, Value.int.injEq, Value.bool.injEq]

set_option maxRecDepth 10000 in
theorem lastIndex_pure (b : List Nat) (c : Nat) (hb : ∀ n ∈ b, n ≤ 255) (hl : b.length ≤ 1099511627776) : Pure Tryd.prog 9 [.lit (.string (txt b)), .lit (.int .u8 (c : Int))] [] (.lit (.int .i64 (lastIx c b))) := by
  refine pure0 Tryd.func9 c9 n9 e9 r9 (by simp) rfl ?_
  simp only [a9, astart, argSlots, go_sem, Nat.reduceAdd, Nat.reduceEqDiff, Nat.reduceLT, reduceIte, reduceCtorEq, Nat.reduceBEq, Int.reduceLT, Int.reduceToNat, Int.reducePow, Nat.reduceLeDiff, Int.reduceLE, Nat.reduceMul, Nat.reduceSub]
  refine callGo_pure (lastLite_pure b c hb hl) (by rfl) ?_
  simp only [go_sem, Nat.reduceAdd, Nat.reduceEqDiff, Nat.reduceLT, reduceIte, reduceCtorEq, Nat.reduceBEq, Int.reduceLT, Int.reduceToNat, Int.reducePow, Nat.reduceLeDiff, Int.reduceLE, Nat.reduceMul, Nat.reduceSub]
  simp only [Done, resAV, resL, resOne, look_nil, look_cons, Nat.reduceEqDiff, if_true, if_false, reduceIte, ite_true, ite_false, Nat.zero_ne_one, Nat.one_ne_zero, reduceCtorEq, true_or, or_true, true_and, Option.some.injEq, AV.lit.injEq, Value.int.injEq, Value.bool.injEq]

theorem lastIx_get {c : Nat} : ∀ {b : List Nat} {p : Nat}, b[p]? = some c → (p : Int) ≤ lastIx c b ∧ lastIx c b < b.length
  | a :: t, 0, h => by
    have h : a = c := by simpa using h
    have hb := lastIx_lt c t
    simp only [lastIx, h, List.length_cons, if_true]
    split <;> omega
  | a :: t, p + 1, h => by
    have := lastIx_get (b := t) (p := p) (by simpa using h)
    simp only [lastIx, List.length_cons]
    rw [if_pos (by omega)]
    omega
where lastIx_lt (c : Nat) : ∀ b : List Nat, -1 ≤ lastIx c b ∧ lastIx c b < b.length
  | [] => by simp [lastIx]
  | a :: t => by
    have := lastIx_lt c t
    simp only [lastIx, List.length_cons]
    split
    · omega
    · split <;> omega

theorem clear_of {b : List Nat} {k : Nat} (hk : k ≤ b.length) (h : ¬ (0 ≤ lastIx 37 (b.take k) ∧ (k : Int) - lastIx 37 (b.take k) ≤ 3)) : Clear b k := by
  intro p hp hk3 he
  have := lastIx_get (c := 37) (b := b.take k) (p := p) (by rw [List.getElem?_take]; simpa [hp] using he)
  omega

theorem str_len : ∀ l : List Int, (Ab.strOf l).size ≤ 4 * l.length
  | [] => by simp [Ab.strOf]
  | n :: l => by
    have h1 := str_len l
    have h2 : Ab.strOf (n :: l) = Ab.strOf [n] ++ Ab.strOf l := strOf_append [n] l
    have h3 : (Ab.strOf [n]).size ≤ 4 := by
      have : (Utf8.encode n).size ≤ 4 := by
        unfold Utf8.encode
        simp only
        repeat' split
        all_goals simp [ByteArray.size]
      simpa [Ab.strOf] using this
    rw [h2, ByteArray.size_append, List.length_cons]
    omega

end Go.Proofs.YteekelelcbfekaaDoor

/-! ## SafGD -/

namespace Go.Proofs.YteekelelcbfekaaDoor
open Go Go.Ab

/-! ### Rows of codes, in parts -/

theorem rowN_take (b : List Nat) : rowN (b.take (3 * rowN b)) = rowN b := by
  have key : ∀ (f : Nat) (b : List Nat), b.length ≤ f → rowN (b.take (3 * rowN b)) = rowN b := by
    intro f
    induction f with
    | zero => intro b h; have : b = [] := List.eq_nil_of_length_eq_zero (by omega)
              subst this; simp [rowN, rowF]
    | succ f ih =>
      intro b h
      cases hc : isC b
      · rw [rowN_plain hc]; rfl
      · have h3 := isC_len hc
        have := ih (b.drop 3) (by simp only [List.length_drop]; omega)
        have hn := rowN_code hc
        have ht : isC (b.take (3 * rowN b)) = true := by rw [isC_take (by omega)]; exact hc
        rw [rowN_code ht, List.drop_take, hn, show 3 * (1 + rowN (b.drop 3)) - 3 = 3 * rowN (b.drop 3) by omega, this]
  exact key _ _ (Nat.le_refl _)

/-- Codes alone. -/
def AllC (q : List Nat) : Prop := q.length = 3 * rowN q
theorem AllC.drop {q : List Nat} (h : AllC q) (hc : isC q = true) : AllC (q.drop 3) := by
  unfold AllC at *
  have h3 := isC_len hc
  rw [rowN_code hc] at h
  rw [List.length_drop]; omega
theorem AllC.code {q : List Nat} (h : AllC q) (hp : 0 < q.length) : isC q = true := by
  unfold AllC at h
  exact rowN_pos.1 (by omega)
theorem dec_drop : ∀ (k : Nat) (q : List Nat), AllC q → 3 * k ≤ q.length → decP (q.drop (3 * k)) = (decP q).drop k ∧ AllC (q.drop (3 * k))
  | 0, q, h, _ => ⟨rfl, h⟩
  | k + 1, q, h, hk => by
    have hc := h.code (by omega)
    have ih := dec_drop k (q.drop 3) (h.drop hc) (by rw [List.length_drop]; omega)
    rw [List.drop_drop, show 3 + 3 * k = 3 * (k + 1) by omega] at ih
    rw [decP_code hc, List.drop_succ_cons]
    exact ih
theorem dec_take : ∀ (m : Nat) (q : List Nat), AllC q → 3 * m ≤ q.length → decP (q.take (3 * m)) = (decP q).take m
  | 0, q, _, _ => rfl
  | m + 1, q, h, hk => by
    have hc := h.code (by omega)
    have ih := dec_take m (q.drop 3) (h.drop hc) (by rw [List.length_drop]; omega)
    have ht : isC (q.take (3 * (m + 1))) = true := by rw [isC_take (by omega)]; exact hc
    have hv : codeV (q.take (3 * (m + 1))) = codeV q := by
      match q, hc with
      | a :: x :: y :: t, _ => rw [show 3 * (m + 1) = 3 * m + 3 by omega]; rfl
    rw [decP_code ht, decP_code hc, List.take_succ_cons, List.drop_take, show 3 * (m + 1) - 3 = 3 * m by omega, ih, hv]

/-! ### A chain of codes -/

/-- What one of them says of its own bytes. -/
def okT (b : List Nat) (x : T3) : Prop :=
  (((b.take x.2.2).drop x.2.1).length = 1 → ∃ c, (b.take x.2.2).drop x.2.1 = [c] ∧ x.1 = if 127 < c then 65533 else c) ∧
  (((b.take x.2.2).drop x.2.1).length ≠ 1 → safeOf (x.1 : Int) = true ∧ Scalar x.1 ∧ decP ((b.take x.2.2).drop x.2.1) = encN x.1 ∧ ((b.take x.2.2).drop x.2.1).length = 3 * (encN x.1).length)
def chain (b : List Nat) : Nat → List T3 → Nat → Prop
  | i, [], j => i = j
  | i, x :: l, j => (x.2.1 = i ∧ i < x.2.2 ∧ x.2.2 ≤ b.length ∧ okT b x) ∧ chain b x.2.2 l j
theorem chain_append {b : List Nat} : ∀ {l m : List T3} {i j k : Nat}, chain b i l j → chain b j m k → chain b i (l ++ m) k
  | [], m, i, j, k, h, h2 => by simp only [chain] at h; subst h; exact h2
  | x :: l, m, i, j, k, h, h2 => ⟨h.1, chain_append h.2 h2⟩
theorem own_one {b : List Nat} {i : Nat} (h : i < b.length) : (b.take (i + 1)).drop i = [b[i]] := by
  rw [List.take_succ_eq_append_getElem h, List.drop_append_of_le_length (by rw [List.length_take]; omega), List.drop_of_length_le (by rw [List.length_take]; omega)]; rfl
theorem chain_one {b : List Nat} {i : Nat} (h : i < b.length) : chain b i [oneT i b[i]] (i + 1) := by
  refine ⟨⟨rfl, by simp [oneT], by simp only [oneT]; omega, ?_, ?_⟩, rfl⟩
  · intro _
    exact ⟨b[i], own_one h, rfl⟩
  · intro hne
    simp only [oneT, own_one h] at hne
    exact absurd rfl hne
theorem chain_each {b : List Nat} : ∀ (m i : Nat), i + m ≤ b.length → chain b i (eachT i ((b.drop i).take m)) (i + m)
  | 0, i, _ => rfl
  | m + 1, i, h => by
    have hi : i < b.length := by omega
    have ih := chain_each (b := b) m (i + 1) (by omega)
    rw [List.drop_eq_getElem_cons hi, List.take_succ_cons, show i + (m + 1) = i + 1 + m by omega]
    exact chain_append (l := [oneT i b[i]]) (chain_one hi) ih

theorem safe_not_bad {r : Nat} (h : safeOf (r : Int) = true) : r ≠ 65533 := by
  rintro rfl
  have : safeOf ((65533 : Nat) : Int) = false := by decide +kernel
  rw [this] at h
  cases h

set_option maxRecDepth 100000 in
theorem chain_said {b q : List Nat} {i : Nat} (hq : ∀ n ∈ q, n ≤ 255) (hall : AllC q) (hsub : (b.drop i).take q.length = q) (hle : i + q.length ≤ b.length) : chain b i (saidT i q) (i + q.length) := by
  have hlen : 3 * (decP q).length = q.length := by
    have := dec_row q
    unfold AllC at hall
    rw [List.take_of_length_le (by omega)] at this
    omega
  have key : ∀ (f k : Nat), (decP q).length - k ≤ f → k ≤ (decP q).length → chain b (i + 3 * k) ((cutF f k ((decP q).drop k)).flatMap (sayT q i)) (i + q.length) := by
    intro f
    induction f with
    | zero => intro k h1 h2
              simp only [cutF, List.flatMap_nil, chain]; omega
    | succ f ih =>
      intro k h1 h2
      rcases Nat.lt_or_eq_of_le h2 with hlt | heq
      · have e := List.drop_eq_getElem_cons hlt
        have hb : ∀ n ∈ (decP q).drop k, n ≤ 255 := fun n hn => decP_le hq n (List.mem_of_mem_drop hn)
        have hn := nx_drop hlt
        have hok := fun r m (h : nx ((decP q).drop k) = (r, m, true)) => nx_ok hb h
        have hfl := nx_fail (c := (decP q)[k]) (t := (decP q).drop (k + 1))
        rw [← e] at hfl
        have hcut : cutF (f + 1) k ((decP q).drop k) = ((nx ((decP q).drop k)).1, k, k + (nx ((decP q).drop k)).2.1, (nx ((decP q).drop k)).2.2) :: cutF f (k + (nx ((decP q).drop k)).2.1) ((decP q).drop (k + (nx ((decP q).drop k)).2.1)) := by
          rw [← List.drop_drop]
          generalize (decP q).drop k = z at e
          subst e
          rfl
        rw [hcut]
        generalize nx ((decP q).drop k) = z at hn hok hfl
        obtain ⟨r, m, ok⟩ := z
        simp only at hn hok hfl ⊢
        rw [List.flatMap_cons]
        have ih2 := ih (k + m) (by omega) (by omega)
        suffices hone : chain b (i + 3 * k) (sayT q i (r, k, k + m, ok)) (i + 3 * (k + m)) from chain_append hone ih2
        have hown : (b.take (i + 3 * (k + m))).drop (i + 3 * k) = (q.drop (3 * k)).take (3 * m) := by
          rw [← hsub, List.drop_take, List.drop_take, List.take_take, List.drop_drop]
          congr 1; omega
        cases hs : safeOf (r : Int)
        · have hsay : sayT q i (r, k, k + m, ok) = eachT (i + 3 * k) ((b.drop (i + 3 * k)).take (3 * m)) := by
            simp only [sayT, hs, Bool.false_eq_true, if_false]
            congr 1
            rw [← hsub, List.drop_take, List.drop_take, List.take_take, List.drop_drop]
            congr 1; omega
          rw [hsay, show i + 3 * (k + m) = i + 3 * k + 3 * m by omega]
          exact chain_each _ _ (by omega)
        · have hsay : sayT q i (r, k, k + m, ok) = [(r, i + 3 * k, i + 3 * (k + m))] := by simp only [sayT, hs, if_true]
          rw [hsay]
          have hokt : ok = true := by
            cases ok with
            | true => rfl
            | false => exact absurd (hfl rfl).1 (safe_not_bad hs)
          subst hokt
          obtain ⟨g1, g2, g3⟩ := hok r m rfl
          have hol : ((b.take (i + 3 * (k + m))).drop (i + 3 * k)).length = 3 * m := by rw [List.length_drop, List.length_take]; omega
          refine ⟨⟨rfl, by simp only; omega, by simp only; omega, fun h => ?_, fun _ => ⟨hs, g1, ?_, ?_⟩⟩, rfl⟩
          · simp only [hol] at h; omega
          · simp only
            rw [hown, dec_take _ _ (dec_drop k q hall (by omega)).2 (by rw [List.length_drop]; omega), (dec_drop k q hall (by omega)).1, g2]
          · simp only [hol]; omega
      · subst heq
        rw [List.drop_length]
        simp only [cutF, List.flatMap_nil, chain]; omega
  exact key (decP q).length 0 (by omega) (by omega)

theorem chain_show (b : List Nat) (hb : ∀ n ∈ b, n ≤ 255) : ∀ (f i : Nat), b.length - i ≤ f → i ≤ b.length → chain b i (showT i (b.drop i)) b.length
  | 0, i, h1, h2 => by
    have : i = b.length := by omega
    subst this
    rw [List.drop_length]; rfl
  | f + 1, i, h1, h2 => by
    rcases Nat.lt_or_eq_of_le h2 with hlt | heq
    · cases hc : isC (b.drop i)
      · rw [List.drop_eq_getElem_cons hlt] at hc ⊢
        rw [showT_one hc]
        exact chain_append (l := [oneT i b[i]]) (chain_one hlt) (chain_show b hb f (i + 1) (by omega) (by omega))
      · have hp := rowN_pos.2 hc
        have hn := rowN_le (b.drop i)
        rw [List.length_drop] at hn
        have hql : ((b.drop i).take (3 * rowN (b.drop i))).length = 3 * rowN (b.drop i) := by rw [List.length_take, List.length_drop]; omega
        have ih := chain_show b hb f (i + 3 * rowN (b.drop i)) (by omega) (by omega)
        rw [showT_row hc, List.drop_drop]
        refine chain_append (chain_said (fun n hn => hb n (List.mem_of_mem_drop (List.mem_of_mem_take hn))) ?_ (by rw [hql]) (by omega)) (by rw [hql]; exact ih)
        unfold AllC
        rw [hql, rowN_take]
    · subst heq
      rw [List.drop_length]; rfl
end Go.Proofs.YteekelelcbfekaaDoor

/-! ## SafID -/

namespace Go.Proofs.YteekelelcbfekaaDoor
open Go Go.Ab

/-- A digit of a code. -/
def upH (v : Nat) : Nat := if v < 10 then 48 + v else 55 + v
/-- The code of a byte. -/
def pctC (n : Nat) : List Nat := [37, upH (n / 16), upH (n % 16)]
/-- Whether a code point is in a set. -/
def inS (also : List Nat) (r : Int) : Bool := decide (r < 32) || (decide (r > 126) || also.any fun (c : Nat) => (c : Int) == r)
def encS1 (also : List Nat) (r : Int) : List Nat := if inS also r = true then (encN (fixN r)).flatMap pctC else [r.toNat]
/-- Code points, by a set. -/
def encS (also : List Nat) (l : List Int) : List Nat := l.flatMap (encS1 also)

theorem upH_hex {v : Nat} (h : v < 16) : hexOf (upH v) = some v := by
  have : ∀ v < 16, hexOf (upH v) = some v := by decide
  exact this v h

/-- Alike but for the case of codes' digits. -/
inductive Alike : List Nat → List Nat → Prop
  | nil : Alike [] []
  | same (c : Nat) {x y : List Nat} (h : Alike x y) : Alike (c :: x) (c :: y)
  | code {p q p' q' v u : Nat} {x y : List Nat} (h1 : hexOf p = some v) (h2 : hexOf p' = some v) (h3 : hexOf q = some u) (h4 : hexOf q' = some u) (h : Alike x y) : Alike (37 :: p :: q :: x) (37 :: p' :: q' :: y)

theorem Alike.append {a b c d : List Nat} (h : Alike a b) (k : Alike c d) : Alike (a ++ c) (b ++ d) := by
  induction h with
  | nil => exact k
  | same c _ ih => exact .same c ih
  | code h1 h2 h3 h4 _ ih => exact .code h1 h2 h3 h4 ih
theorem Alike.refl : ∀ a : List Nat, Alike a a
  | [] => .nil
  | c :: a => .same c (Alike.refl a)
theorem Alike.length {a b : List Nat} (h : Alike a b) : a.length = b.length := by
  induction h with
  | nil => rfl
  | same c _ ih => simp [ih]
  | code _ _ _ _ _ ih => simp [ih]

/-- A letter made small. -/
def lowN (c : Nat) : Nat := if 65 ≤ c ∧ c ≤ 90 then c + 32 else c
theorem hex_low {p q v : Nat} (h1 : hexOf p = some v) (h2 : hexOf q = some v) : lowN p = lowN q := by
  unfold hexOf at h1 h2
  unfold lowN
  (repeat' split at h1) <;> (repeat' split at h2) <;> simp at h1 h2 <;> (repeat' split) <;> omega
theorem Alike.low {a b : List Nat} (h : Alike a b) : a.map lowN = b.map lowN := by
  induction h with
  | nil => rfl
  | same c _ ih => simp [ih]
  | code h1 h2 h3 h4 _ ih => simp [ih, hex_low h1 h2, hex_low h3 h4]
theorem Alike.isC {a b : List Nat} (h : Alike a b) : isC a = isC b := by
  have two : ∀ {x y : List Nat}, Alike x y → (match x with | p :: q :: _ => (hexOf p).isSome && (hexOf q).isSome | _ => false) = (match y with | p :: q :: _ => (hexOf p).isSome && (hexOf q).isSome | _ => false) := by
    intro x y h
    have one : ∀ {x y : List Nat}, Alike x y → (match x with | p :: _ => (hexOf p).isSome | _ => false) = (match y with | p :: _ => (hexOf p).isSome | _ => false) := by
      intro x y h
      cases h <;> rfl
    cases h with
    | nil => rfl
    | same c h =>
      have := one h
      cases h <;> first | rfl | simp_all
    | code h1 h2 h3 h4 h => simp [h1, h2]
  cases h with
  | nil => rfl
  | same c h =>
    have := two h
    rename_i x y
    have ex : ∀ z : List Nat, Go.Proofs.YteekelelcbfekaaDoor.isC (c :: z) = (c == 37 && (match z with | p :: q :: _ => (hexOf p).isSome && (hexOf q).isSome | _ => false)) := by
      intro z
      match z with
      | [] => simp [Go.Proofs.YteekelelcbfekaaDoor.isC]
      | [p] => simp [Go.Proofs.YteekelelcbfekaaDoor.isC]
      | p :: q :: z => rfl
    rw [ex, ex, this]
  | code h1 h2 h3 h4 h => simp [Go.Proofs.YteekelelcbfekaaDoor.isC, h1, h2, h3, h4]

theorem hex_no {c v : Nat} (h : hexOf c = some v) : c ≠ 37 := by
  rintro rfl
  simp [hexOf] at h

/-- What is alike says the same. -/
theorem Alike.decN : ∀ (n : Nat) (x y : List Nat), x.length ≤ n → Alike x y → decP x = decP y := by
  intro n
  induction n with
  | zero =>
    intro x y hn h
    cases h with
    | nil => rfl
    | same c h => simp at hn
    | code _ _ _ _ h => simp at hn
  | succ n ih =>
    intro x y hn h
    cases h with
    | nil => rfl
    | @code p q p' q' v u x y h1 h2 h3 h4 h =>
      have hc1 : Go.Proofs.YteekelelcbfekaaDoor.isC (37 :: p :: q :: x) = true := by simp [Go.Proofs.YteekelelcbfekaaDoor.isC, h1, h3]
      have hc2 : Go.Proofs.YteekelelcbfekaaDoor.isC (37 :: p' :: q' :: y) = true := by simp [Go.Proofs.YteekelelcbfekaaDoor.isC, h2, h4]
      rw [decP_code hc1, decP_code hc2]
      simp only [codeV, h1, h2, h3, h4, List.drop_succ_cons, List.drop_zero]
      simp only [List.length_cons] at hn
      rw [ih x y (by omega) h]
    | @same c x y h =>
      simp only [List.length_cons] at hn
      have hcc := (Alike.same c h).isC
      cases hc : Go.Proofs.YteekelelcbfekaaDoor.isC (c :: x) with
      | false =>
        rw [hc] at hcc
        rw [decP_plain hc, decP_plain hcc.symm, ih x y (by omega) h]
      | true =>
        rw [hc] at hcc
        rw [decP_code hc, decP_code hcc.symm]
        match x, h, hc, hn with
        | [], _, hc, _ => simp [Go.Proofs.YteekelelcbfekaaDoor.isC] at hc
        | [p], _, hc, _ => simp [Go.Proofs.YteekelelcbfekaaDoor.isC] at hc
        | p :: q :: x', k1, hc, hn =>
          have hx : c = 37 ∧ (hexOf p).isSome = true ∧ (hexOf q).isSome = true := by simpa [Go.Proofs.YteekelelcbfekaaDoor.isC] using hc
          obtain ⟨v, hv⟩ := Option.isSome_iff_exists.1 hx.2.1
          obtain ⟨u, hu⟩ := Option.isSome_iff_exists.1 hx.2.2
          have hp := hex_no hv
          have hq := hex_no hu
          clear hc hcc hx hv hu
          cases k1 with
          | code => exact absurd rfl hp
          | same _ k2 =>
            cases k2 with
            | code => exact absurd rfl hq
            | same _ k3 =>
              simp only [codeV, List.drop_succ_cons, List.drop_zero]
              simp only [List.length_cons] at hn
              rw [ih _ _ (by omega) k3]
theorem Alike.dec {x y : List Nat} (h : Alike x y) : decP x = decP y := Alike.decN _ x y (Nat.le_refl _) h

theorem dec_third : ∀ (n : Nat) (x : List Nat), x.length ≤ n → x.length ≤ 3 * (decP x).length
  | _, [], _ => by simp
  | 0, a :: t, h => by simp at h
  | n + 1, a :: t, h => by
    simp only [List.length_cons] at h
    rw [decP_cons]
    split
    · have := dec_third n (t.drop 2) (by rw [List.length_drop]; omega)
      rw [List.length_drop] at this
      simp only [List.length_cons]; omega
    · have := dec_third n t (by omega)
      simp only [List.length_cons]; omega

/-- Codes, coded again. -/
theorem alike_codes : ∀ (n : Nat) (q : List Nat), q.length ≤ n → q.length = 3 * (decP q).length → Alike q ((decP q).flatMap pctC)
  | _, [], _, _ => .nil
  | 0, a :: t, h, _ => by simp at h
  | n + 1, a :: t, h, h3 => by
    simp only [List.length_cons] at h
    cases hc : isC (a :: t) with
    | false =>
      rw [decP_plain hc] at h3
      have := dec_third t.length t (Nat.le_refl _)
      simp only [List.length_cons] at h3
      omega
    | true =>
      match t, hc with
      | p :: q :: x, hc =>
        have hx : a = 37 ∧ (hexOf p).isSome = true ∧ (hexOf q).isSome = true := by simpa [isC] using hc
        obtain ⟨rfl, hx1, hx2⟩ := hx
        obtain ⟨v, hv⟩ := Option.isSome_iff_exists.1 hx1
        obtain ⟨u, hu⟩ := Option.isSome_iff_exists.1 hx2
        rw [decP_code hc] at h3 ⊢
        simp only [List.drop_succ_cons, List.drop_zero, List.length_cons] at h3 ⊢ h
        have hv16 := hexOf_le _ _ hv
        have hu16 := hexOf_le _ _ hu
        have e : codeV (37 :: p :: q :: x) = 16 * v + u := by simp [codeV, hv, hu]
        rw [List.flatMap_cons, e]
        have e1 : (16 * v + u) / 16 = v := by omega
        have e2 : (16 * v + u) % 16 = u := by omega
        have := alike_codes n x (by omega) (by omega)
        unfold pctC
        rw [e1, e2]
        exact .code hv (upH_hex (by omega)) hu (upH_hex (by omega)) this

theorem take_drop_split {b : List Nat} {i k j : Nat} (h1 : i ≤ k) (h2 : k ≤ j) : (b.take j).drop i = (b.take k).drop i ++ (b.take j).drop k := by
  have e : (b.take j).drop i = ((b.take j).drop i).take (k - i) ++ ((b.take j).drop i).drop (k - i) := (List.take_append_drop _ _).symm
  rw [e, List.drop_drop, show i + (k - i) = k by omega]
  congr 1
  rw [← List.drop_take, List.take_take, Nat.min_eq_left (by omega)]

theorem chain_le {b : List Nat} : ∀ {l : List T3} {i j : Nat}, chain b i l j → i ≤ j
  | [], i, j, h => by simp only [chain] at h; omega
  | x :: l, i, j, h => by
    obtain ⟨⟨h1, h2, h3, h4⟩, h5⟩ := h
    have := chain_le h5
    omega

theorem safe_128 {r : Nat} (h : safeOf (r : Int) = true) : 128 ≤ r := by
  unfold safeOf at h
  simp only [Bool.and_eq_true, Bool.not_eq_true', Bool.or_eq_false_iff, decide_eq_false_iff_not] at h
  omega

/-- What is shown, coded again, is alike. -/
theorem alike_chain {also b : List Nat} (hb : ∀ c ∈ b, inS also (c : Int) = false) : ∀ (l : List T3) (i j : Nat), chain b i l j → Alike ((b.take j).drop i) (encS also (rOf l))
  | [], i, j, h => by
    simp only [chain] at h
    subst h
    rw [List.drop_of_length_le (by rw [List.length_take]; omega)]
    exact .nil
  | x :: l, i, j, h => by
    obtain ⟨⟨h1, h2, h3, h4, h5⟩, h6⟩ := h
    have hj := chain_le h6
    have ih := alike_chain hb l _ _ h6
    rw [take_drop_split (k := x.2.2) (by omega) hj]
    have e : encS also (rOf (x :: l)) = encS1 also (x.1 : Int) ++ encS also (rOf l) := by simp [encS, rOf]
    rw [e]
    refine Alike.append ?_ ih
    rw [← h1]
    by_cases hlen : ((b.take x.2.2).drop x.2.1).length = 1
    · obtain ⟨c, hc, hx⟩ := h4 hlen
      have hcb : c ∈ b := by
        have : c ∈ (b.take x.2.2).drop x.2.1 := by rw [hc]; simp
        exact List.mem_of_mem_take (List.mem_of_mem_drop this)
      have hin := hb c hcb
      have hc126 : c ≤ 126 := by
        unfold inS at hin
        simp only [Bool.or_eq_false_iff, decide_eq_false_iff_not] at hin
        omega
      rw [if_neg (by omega)] at hx
      rw [hc, hx, encS1, if_neg (by rw [hin]; simp)]
      exact .same c .nil
    · obtain ⟨g1, g2, g3, g4⟩ := h5 hlen
      have h128 := safe_128 g1
      have hin : inS also (x.1 : Int) = true := by
        unfold inS
        simp only [Bool.or_eq_true, decide_eq_true_eq]
        right; left; omega
      have hfix : fixN (x.1 : Int) = x.1 := by
        unfold fixN
        have hs : scalarB (x.1 : Int) = true := by
          unfold scalarB
          unfold Scalar at g2
          simp only [Bool.and_eq_true, Bool.or_eq_true, decide_eq_true_eq]
          omega
        rw [if_pos hs]; simp
      rw [encS1, if_pos hin, hfix, ← g3]
      exact alike_codes _ _ (Nat.le_refl _) (by rw [g3]; exact g4)

/-- The whole: what is shown of a text that holds nobody of the set. -/
theorem alike_show {also b : List Nat} (h255 : ∀ n ∈ b, n ≤ 255) (hb : ∀ c ∈ b, inS also (c : Int) = false) : Alike b (encS also (rOf (showT 0 b))) := by
  have hc := chain_show b h255 b.length 0 (by omega) (Nat.zero_le _)
  rw [List.drop_zero] at hc
  have := alike_chain hb _ _ _ hc
  rwa [List.take_length, List.drop_zero] at this
end Go.Proofs.YteekelelcbfekaaDoor

/-! ## SafJD -/

namespace Go.Proofs.YteekelelcbfekaaDoor
open Go Go.Ab

theorem isC_app {q : List Nat} (Z : List Nat) (h : isC q = true) : isC (q ++ Z) = true := by
  match q, h with
  | a :: x :: y :: t, h => exact h
theorem codeV_app {q : List Nat} (Z : List Nat) (h : isC q = true) : codeV (q ++ Z) = codeV q := by
  match q, h with
  | a :: x :: y :: t, h => rfl
theorem drop3_app {q : List Nat} (Z : List Nat) (h : isC q = true) : (q ++ Z).drop 3 = q.drop 3 ++ Z := List.drop_append_of_le_length (isC_len h)

theorem row_app : ∀ (n : Nat) (q Z : List Nat), q.length ≤ n → AllC q → rowN (q ++ Z) = rowN q + rowN Z ∧ decP (q ++ Z) = decP q ++ decP Z
  | _, [], Z, _, _ => ⟨by rw [show rowN [] = 0 from rfl, Nat.zero_add]; rfl, rfl⟩
  | 0, a :: t, _, h, _ => by simp at h
  | n + 1, a :: t, Z, h, hq => by
    have hc := hq.code (by simp)
    have h3 := isC_len hc
    have ih := row_app n ((a :: t).drop 3) Z (by rw [List.length_drop]; omega) (hq.drop hc)
    have hc2 := isC_app Z hc
    rw [rowN_code hc2, rowN_code hc, drop3_app Z hc, ih.1, decP_code hc2, decP_code hc, drop3_app Z hc, ih.2, codeV_app Z hc]
    exact ⟨by omega, rfl⟩
theorem AllC.of_dec : ∀ (n : Nat) (q : List Nat), q.length ≤ n → q.length = 3 * (decP q).length → AllC q
  | _, [], _, _ => rfl
  | 0, a :: t, h, _ => by simp at h
  | n + 1, a :: t, h, h3 => by
    simp only [List.length_cons] at h
    cases hc : isC (a :: t) with
    | false =>
      rw [decP_plain hc] at h3
      have := dec_third t.length t (Nat.le_refl _)
      simp only [List.length_cons] at h3
      omega
    | true =>
      have hl := isC_len hc
      rw [decP_code hc] at h3
      simp only [List.length_cons] at h3 hl
      have := AllC.of_dec n ((a :: t).drop 3) (by rw [List.length_drop, List.length_cons]; omega) (by rw [List.length_drop, List.length_cons]; omega)
      unfold AllC at this ⊢
      rw [List.length_drop, List.length_cons] at this
      rw [rowN_code hc, List.length_cons]; omega

theorem cut_shift : ∀ (f k : Nat) (w : List Nat), w.length ≤ f → ∀ i, cutF f (i + k) w = (cutF f i w).map fun x => (x.1, x.2.1 + k, x.2.2.1 + k, x.2.2.2)
  | 0, k, w, _, i => rfl
  | f + 1, k, [], _, i => rfl
  | f + 1, k, c :: t, h, i => by
    have hn := nx_len c t
    have ih := cut_shift f k ((c :: t).drop (nx (c :: t)).2.1) (by rw [List.length_drop]; simp only [List.length_cons] at h ⊢; omega) (i + (nx (c :: t)).2.1)
    simp only [cutF, List.map_cons]
    rw [show i + k + (nx (c :: t)).2.1 = i + (nx (c :: t)).2.1 + k by omega, ih]

theorem say_shift (q z : List Nat) (at_ k : Nat) (hq : q.length = 3 * k) (x : Nat × Nat × Nat × Bool) : rOf (sayT (q ++ z) at_ (x.1, x.2.1 + k, x.2.2.1 + k, x.2.2.2)) = rOf (sayT z at_ x) := by
  unfold sayT
  simp only
  split
  · rfl
  · have e : ((q ++ z).take (3 * (x.2.2.1 + k))).drop (3 * (x.2.1 + k)) = (z.take (3 * x.2.2.1)).drop (3 * x.2.1) := by
      rw [List.take_append, List.take_of_length_le (by omega), List.drop_append, List.drop_of_length_le (by omega), List.nil_append]
      congr 1
      · omega
      · congr 1; omega
    rw [e]
    exact eachT_R _ _ _

theorem rOf_flat (g h : Nat × Nat × Nat × Bool → List T3) (hgh : ∀ x, rOf (g x) = rOf (h x)) : ∀ l : List (Nat × Nat × Nat × Bool), rOf (l.flatMap g) = rOf (l.flatMap h)
  | [] => rfl
  | x :: l => by rw [List.flatMap_cons, List.flatMap_cons, rOf_append, rOf_append, hgh, rOf_flat g h hgh l]
theorem rOf_each : ∀ (i : Nat) (b : List Nat), (∀ c ∈ b, c ≤ 127) → rOf (eachT i b) = b.map fun (c : Nat) => (c : Int)
  | _, [], _ => rfl
  | i, c :: t, h => by
    have := rOf_each (i + 1) t fun x hx => h x (by simp [hx])
    have hc := h c (by simp)
    simp only [rOf] at this
    simp only [eachT, rOf, List.map_cons, oneT, this, if_neg (show ¬ 127 < c by omega)]

/-- Codes of one code point at the front. -/
theorem peel {q Z : List Nat} {r : Nat} (hr : Scalar r) (h127 : ∀ c ∈ q, c ≤ 127) (hd : decP q = encN r) (hl : q.length = 3 * (encN r).length) :
    rOf (showT 0 (q ++ Z)) = (if safeOf (r : Int) = true then [(r : Int)] else q.map fun (c : Nat) => (c : Int)) ++ rOf (showT 0 Z) := by
  have hA : AllC q := AllC.of_dec _ q (Nat.le_refl _) (by rw [hd]; exact hl)
  have he := encN_len r
  have hcq := hA.code (by omega)
  have hc := isC_app Z hcq
  obtain ⟨hrow, _⟩ := row_app _ q Z (Nat.le_refl _) hA
  have hq3 : q.length = 3 * rowN q := hA
  rw [showT_row hc, rOf_append, hrow, show 3 * (rowN q + rowN Z) = q.length + 3 * rowN Z by omega, List.take_append, List.take_of_length_le (by omega), show q.length + 3 * rowN Z - q.length = 3 * rowN Z by omega, List.drop_append, List.drop_of_length_le (by omega), List.nil_append, show q.length + 3 * rowN Z - q.length = 3 * rowN Z by omega]
  have hZ : rOf (showT 0 Z) = rOf (saidT 0 (Z.take (3 * rowN Z))) ++ rOf (showT (0 + (q.length + 3 * rowN Z)) (Z.drop (3 * rowN Z))) := by
    cases hz : isC Z with
    | true => rw [showT_row hz, rOf_append]; congr 1; exact showT_R _ _ _
    | false =>
      rw [rowN_plain hz]
      simp only [Nat.mul_zero, List.take_zero, List.drop_zero]
      rw [show saidT 0 [] = [] from rfl]
      exact showT_R _ _ _
  have hZ2 : showT (0 + (q.length + 3 * rowN Z)) (Z.drop (3 * rowN Z)) = showT (0 + (q.length + 3 * rowN Z)) (Z.drop (3 * rowN Z)) := rfl
  suffices hs : rOf (saidT 0 (q ++ Z.take (3 * rowN Z))) = (if safeOf (r : Int) = true then [(r : Int)] else q.map fun (c : Nat) => (c : Int)) ++ rOf (saidT 0 (Z.take (3 * rowN Z))) by
    rw [hZ, hs, List.append_assoc]
  clear hZ hZ2
  generalize hz : Z.take (3 * rowN Z) = z
  have hdz := (row_app _ q z (Nat.le_refl _) hA).2
  have hcut : cut 0 (decP (q ++ z)) = (r, 0, (encN r).length, true) :: cut (encN r).length (decP z) := by
    rw [hdz, hd]
    obtain ⟨c, t, ht⟩ : ∃ c t, encN r = c :: t := by
      cases h : encN r with
      | nil => rw [h] at he; simp at he
      | cons c t => exact ⟨c, t, rfl⟩
    have hn := nx_enc hr (decP z)
    rw [ht, List.cons_append] at hn ⊢
    rw [cut_cons, hn]
    simp only [Nat.zero_add]
    rw [show c :: (t ++ decP z) = (c :: t) ++ decP z from rfl, List.drop_left]
  have hsh : cut (encN r).length (decP z) = (cut 0 (decP z)).map fun x => (x.1, x.2.1 + (encN r).length, x.2.2.1 + (encN r).length, x.2.2.2) := by
    have := cut_shift (decP z).length (encN r).length (decP z) (Nat.le_refl _) 0
    rw [Nat.zero_add] at this
    exact this
  have hfirst : rOf (sayT (q ++ z) 0 (r, 0, (encN r).length, true)) = if safeOf (r : Int) = true then [(r : Int)] else q.map fun (c : Nat) => (c : Int) := by
    cases hs : safeOf (r : Int) with
    | true =>
      rw [if_pos rfl, sayT, if_pos hs]; rfl
    | false =>
      rw [if_neg (by simp), sayT, if_neg (by simp only; rw [hs]; simp)]
      simp only
      rw [Nat.mul_zero, List.drop_zero, List.take_append, List.take_of_length_le (by omega), ← hl, Nat.sub_self, List.take_zero, List.append_nil]
      exact rOf_each _ _ h127
  have hrest : rOf ((cut 0 (decP z)).flatMap fun x => sayT (q ++ z) 0 (x.1, x.2.1 + (encN r).length, x.2.2.1 + (encN r).length, x.2.2.2)) = rOf ((cut 0 (decP z)).flatMap (sayT z 0)) :=
    rOf_flat _ _ (fun x => say_shift q z 0 _ (by omega) x) _
  rw [saidT, saidT, hcut, List.flatMap_cons, rOf_append, hsh, List.flatMap_map, hfirst, ← hrest]

theorem safe_small {r : Nat} (h : r ≤ 127) : safeOf (r : Int) = false := by
  cases hs : safeOf (r : Int) with
  | false => rfl
  | true => have := safe_128 hs; omega

/-- One code of ASCII at the front. -/
theorem peel_ascii {X : List Nat} (hc : isC X = true) (h127 : ∀ c ∈ X, c ≤ 127) (hv : codeV X ≤ 127) : rOf (showT 0 X) = (X.take 3).map (fun (c : Nat) => (c : Int)) ++ rOf (showT 0 (X.drop 3)) := by
  have h3 := isC_len hc
  have ht : isC (X.take 3) = true := by rw [isC_take (Nat.le_refl _)]; exact hc
  have hcv : codeV (X.take 3) = codeV X := by
    match X, hc with
    | a :: x :: y :: t, _ => rfl
  have hd : decP (X.take 3) = encN (codeV X) := by
    rw [decP_code ht, hcv, enc1 hv, List.drop_of_length_le (by rw [List.length_take]; omega)]; rfl
  have := peel (q := X.take 3) (Z := X.drop 3) (r := codeV X) (.inl (by omega)) (fun c hc => h127 c (List.mem_of_mem_take hc)) hd (by rw [enc1 hv, List.length_take]; simp; omega)
  rw [List.take_append_drop, safe_small hv] at this
  simpa using this
theorem peel_one {c : Nat} {t : List Nat} (hc : isC (c :: t) = false) (h : c ≤ 127) : rOf (showT 0 (c :: t)) = (c : Int) :: rOf (showT 0 t) := by
  rw [showT_one hc]
  have := showT_R t 1 0
  simp only [rOf] at this ⊢
  simp only [Nat.zero_add, List.map_cons, oneT, if_neg (show ¬ 127 < c by omega), this]

/-- A text of ASCII, and of codes of ASCII, is shown as it is. -/
theorem show_ascii : ∀ (n : Nat) (X : List Nat), X.length ≤ n → (∀ c ∈ X, c ≤ 127) → (∀ c ∈ decP X, c ≤ 127) → rOf (showT 0 X) = X.map fun (c : Nat) => (c : Int)
  | _, [], _, _, _ => rfl
  | 0, a :: t, h, _, _ => by simp at h
  | n + 1, a :: t, h, h1, h2 => by
    cases hc : isC (a :: t) with
    | true =>
      rw [decP_code hc] at h2
      have := show_ascii n ((a :: t).drop 3) (by rw [List.length_drop]; omega) (fun c hx => h1 c (List.mem_of_mem_drop hx)) (fun c hx => h2 c (List.mem_cons_of_mem _ hx))
      rw [peel_ascii hc h1 (h2 _ (by simp)), this, ← List.map_append, List.take_append_drop]
    | false =>
      rw [decP_plain hc] at h2
      simp only [List.length_cons] at h
      rw [peel_one hc (h1 a (by simp)), show_ascii n t (by omega) (fun c hx => h1 c (by simp [hx])) (fun c hx => h2 c (List.mem_cons_of_mem _ hx)), List.map_cons]

/-- No code is begun at a text's end. -/
def Whole (a : List Nat) : Prop := ∀ p (h : p < a.length), a.length < p + 3 → a[p] ≠ 37
theorem Whole.tail {c : Nat} {t : List Nat} (h : Whole (c :: t)) : Whole t := fun p hp hl => by
  have := h (p + 1) (by simp only [List.length_cons]; omega) (by simp only [List.length_cons]; omega)
  simpa using this
theorem Whole.drop : ∀ (k : Nat) {a : List Nat}, Whole a → Whole (a.drop k)
  | 0, _, h => h
  | k + 1, [], h => h
  | k + 1, c :: t, h => Whole.drop k h.tail
theorem Whole.isC {a : List Nat} (h : Whole a) (hn : a ≠ []) (Y : List Nat) : Go.Proofs.YteekelelcbfekaaDoor.isC (a ++ Y) = Go.Proofs.YteekelelcbfekaaDoor.isC a := by
  match a, hn with
  | [x], _ =>
    have : x ≠ 37 := h 0 (by simp) (by simp)
    rw [isC_short (b := [x]) (by simp)]
    match Y with
    | [] => rfl
    | [y] => rfl
    | y :: z :: Y => simp [Go.Proofs.YteekelelcbfekaaDoor.isC, this]
  | [x, x'], _ =>
    have : x ≠ 37 := h 0 (by simp) (by simp)
    rw [isC_short (b := [x, x']) (by simp)]
    match Y with
    | [] => rfl
    | y :: Y => simp [Go.Proofs.YteekelelcbfekaaDoor.isC, this]
  | x :: x' :: x'' :: a, _ => rfl

theorem dec_whole : ∀ (n : Nat) (a Y : List Nat), a.length ≤ n → Whole a → decP (a ++ Y) = decP a ++ decP Y
  | _, [], Y, _, _ => rfl
  | 0, a :: t, _, h, _ => by simp at h
  | n + 1, a :: t, Y, h, hw => by
    have hi := hw.isC (by simp) Y
    cases hc : isC (a :: t) with
    | true =>
      rw [hc] at hi
      rw [decP_code hi, decP_code hc, drop3_app Y hc, codeV_app Y hc, dec_whole n ((a :: t).drop 3) Y (by rw [List.length_drop]; omega) (hw.drop 3)]
      rfl
    | false =>
      rw [hc] at hi
      simp only [List.length_cons] at h
      rw [List.cons_append] at hi ⊢
      rw [decP_plain hi, decP_plain hc, dec_whole n t Y (by omega) hw.tail]
      rfl

/-- ASCII ahead is shown as it is, whatever comes behind. -/
theorem show_whole : ∀ (n : Nat) (a Y : List Nat), a.length ≤ n → Whole a → (∀ c ∈ a, c ≤ 127) → (∀ c ∈ Y, c ≤ 127) → (∀ c ∈ decP a, c ≤ 127) → rOf (showT 0 (a ++ Y)) = a.map (fun (c : Nat) => (c : Int)) ++ rOf (showT 0 Y)
  | _, [], Y, _, _, _, _, _ => rfl
  | 0, a :: t, _, h, _, _, _, _ => by simp at h
  | n + 1, a :: t, Y, h, hw, h1, hY, h2 => by
    have hi := hw.isC (by simp) Y
    cases hc : isC (a :: t) with
    | true =>
      have h3 := isC_len hc
      rw [hc] at hi
      rw [decP_code hc] at h2
      have ih := show_whole n ((a :: t).drop 3) Y (by rw [List.length_drop]; omega) (hw.drop 3) (fun c hx => h1 c (List.mem_of_mem_drop hx)) hY (fun c hx => h2 c (List.mem_cons_of_mem _ hx))
      have hall : ∀ c ∈ (a :: t) ++ Y, c ≤ 127 := fun c hx => (List.mem_append.1 hx).elim (h1 c) (hY c)
      rw [peel_ascii hi hall (by rw [codeV_app Y hc]; exact h2 _ (by simp)), drop3_app Y hc, ih, List.take_append_of_le_length h3, ← List.append_assoc, ← List.map_append, List.take_append_drop]
    | false =>
      rw [hc] at hi
      rw [decP_plain hc] at h2
      simp only [List.length_cons] at h
      rw [List.cons_append] at hi ⊢
      rw [peel_one hi (h1 a (by simp)), show_whole n t Y (by omega) hw.tail (fun c hx => h1 c (by simp [hx])) hY (fun c hx => h2 c (List.mem_cons_of_mem _ hx)), List.map_cons, List.cons_append]

/-- A code point, as it is coded between texts of ASCII: q its codes, or itself. -/
theorem show_one {a q Z : List Nat} {r : Nat} (hr : Scalar r) (hw : Whole a) (ha : ∀ c ∈ a, c ≤ 127) (hq : ∀ c ∈ q, c ≤ 127) (hz : ∀ c ∈ Z, c ≤ 127) (da : ∀ c ∈ decP a, c ≤ 127) (dz : ∀ c ∈ decP Z, c ≤ 127)
    (hd : decP q = encN r) (hl : q.length = 3 * (encN r).length) :
    rOf (showT 0 (a ++ q ++ Z)) = rOf (showT 0 a) ++ (if safeOf (r : Int) = true then [(r : Int)] else q.map fun (c : Nat) => (c : Int)) ++ rOf (showT 0 Z) := by
  rw [List.append_assoc, show_whole _ a _ (Nat.le_refl _) hw ha (fun c hx => (List.mem_append.1 hx).elim (hq c) (hz c)) da, peel hr hq hd hl, show_ascii _ a (Nat.le_refl _) ha da, List.append_assoc]
theorem show_plain {a Y : List Nat} (hw : Whole a) (ha : ∀ c ∈ a, c ≤ 127) (hY : ∀ c ∈ Y, c ≤ 127) (da : ∀ c ∈ decP a, c ≤ 127) (dY : ∀ c ∈ decP Y, c ≤ 127) :
    rOf (showT 0 (a ++ Y)) = rOf (showT 0 a) ++ Y.map fun (c : Nat) => (c : Int) := by
  rw [show_whole _ a _ (Nat.le_refl _) hw ha hY da, show_ascii _ a (Nat.le_refl _) ha da, show_ascii _ Y (Nat.le_refl _) hY dY]
end Go.Proofs.YteekelelcbfekaaDoor
