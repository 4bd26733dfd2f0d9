/-
Codes, one by one: what the loops over them hand back. Conditions: none.
-/
import Derived.Test.YtbnaepdeakcljaaUtf2
set_option linter.unusedSimpArgs false
set_option linter.unusedVariables false
set_option linter.unusedSectionVars false
namespace Go.Proofs.Ytbnaepdeakcljaa
open Go Go.Ab
def a35 : ACode :=
  (.seq (.reg [⟨(.some 1), (.box 22 (.t 0)), .none⟩, ⟨(.some 2), (.mv (.k .nilFunc)), .none⟩]) (.seq (.reg [⟨(.some 3), (.mkf (.func 58) [] [(.t 1)]), .none⟩, ⟨(.some 2), (.mv (.t 3)), .none⟩]) .ret))
theorem c35 : Try.f35.body.bind (cCode Try.prog 4) = some a35 := by kernel_rfl
theorem r35 : Try.f35.results.toList = [(.tmp 2)] := by kernel_rfl
theorem n35 : Try.f35.ntmps = 4 := by kernel_rfl
theorem e35 : Enters Try.prog 35 := enters_of Try.func35 (by kernel_rfl) (by kernel_rfl)
def a58 : ACode :=
  (.seq (.reg [⟨(.some 3), (.mv (.k (.int .i64 0))), .none⟩]) (.block 0 (.loop (.seq (.seq (.reg [⟨(.some 6), (.mv (.t 3)), .none⟩, ⟨(.some 7), (.ld .none (.t 1)), .none⟩, ⟨(.some 8), (.len (.t 7)),
  .none⟩, ⟨(.some 9), (.bin .lss (.t 6) (.t 8)), .none⟩]) (.cond (.t 9) .skip (.exit 0))) (.block 1 (.seq (.reg [⟨(.some 11), (.ld .none (.t 1)), .none⟩, ⟨(.some 12), (.mv (.t 3)), .none⟩, ⟨(.some 13),
  (.slc 5 (.t 11) (.some (.t 12)) .none), .none⟩, ⟨(.some 14), (.call (.f 59) [(.t 13)]), .none⟩, ⟨(.some 10), (.mv (.t 14)), .none⟩, ⟨(.some 15), (.ext (.t 10) 0), .none⟩, ⟨(.some 16), (.ext (.t 10)
  1), .none⟩, ⟨(.some 4), (.mv (.t 15)), .none⟩, ⟨(.some 5), (.mv (.t 16)), .none⟩]) (.seq (.seq (.reg [⟨(.some 17), (.mv (.t 0)), .none⟩, ⟨(.some 18), (.mv (.t 4)), .none⟩, ⟨(.some 19), (.mv (.t 3)),
  .none⟩, ⟨(.some 20), (.mv (.t 3)), .none⟩, ⟨(.some 21), (.mv (.t 5)), .none⟩, ⟨(.some 22), (.bin .add (.t 20) (.t 21)), .none⟩, ⟨(.some 23), (.bd [(.int .i32 0), (.int .i64 0), (.int .i64 0)] [(0, (1,
  (.t 18))), (1, (1, (.t 19))), (2, (1, (.t 22)))]), .none⟩, ⟨(.some 24), (.call (.t 17) [(.t 23)]), .none⟩, ⟨(.some 25), (.not (.t 24)), .none⟩]) (.cond (.t 25) .ret .skip)) (.reg [⟨(.some 26), (.mv
  (.t 3)), .none⟩, ⟨(.some 27), (.mv (.t 5)), .none⟩, ⟨(.some 28), (.bin .add (.t 26) (.t 27)), .none⟩, ⟨(.some 3), (.mv (.t 28)), .none⟩]))))))))
theorem c58 : Try.f58.body.bind (cCode Try.prog 29) = some a58 := by kernel_rfl
theorem r58 : Try.f58.results.toList = [] := by kernel_rfl
theorem n58 : Try.f58.ntmps = 29 := by kernel_rfl
theorem e58 : Enters Try.prog 58 := enters_of Try.func58 (by kernel_rfl) (by kernel_rfl)
def as14_0 : ACode :=
  (.reg [⟨(.some 4), (.alc 27 [(.int .i32 0), (.int .i64 0), (.int .i64 0)]), .none⟩, ⟨.none, (.st 3 (.t 4) (.t 7)), .none⟩])
def bd14_0 : ACode :=
  (.block 1 (.reg [⟨(.some 8), (.ld .none (.t 3)), .none⟩, ⟨(.some 9), (.ld (.some 3) (.t 4)), .none⟩, ⟨(.some 10), (.bs 27 3 [(.t 9)]), .none⟩, ⟨(.some 11), (.app 27 24 (.t 8) (.t 10)), .none⟩, ⟨.none,
  (.st 1 (.t 3) (.t 11)), .none⟩]))
theorem was14_0 (F : Nat) (Q : Exit → State → Prop) (s : State) : awp Try.prog F as14_0 Q s = awp Try.prog F ((.reg [⟨(.some 4), (.alc 27 [(.int .i32 0), (.int .i64 0), (.int .i64 0)]), .none⟩, ⟨.none, (.st 3 (.t 4) (.t 7)), .none⟩])) Q s := rfl
attribute [go_sem] was14_0
theorem wbd14_0 (F : Nat) (Q : Exit → State → Prop) (s : State) : awp Try.prog F bd14_0 Q s = awp Try.prog F ((.block 1 (.reg [⟨(.some 8), (.ld .none (.t 3)), .none⟩, ⟨(.some 9), (.ld (.some 3) (.t 4)), .none⟩, ⟨(.some 10), (.bs 27 3 [(.t 9)]), .none⟩, ⟨(.some 11), (.app 27 24 (.t 8) (.t 10)), .none⟩, ⟨.none,
  (.st 1 (.t 3) (.t 11)), .none⟩]))) Q s := rfl
attribute [go_sem] wbd14_0
def a14 : ACode :=
  (.seq (.reg [⟨(.some 2), (.mv (.k (.slice .none 0 0))), .none⟩]) (.seq (.reg [⟨(.some 3), (.alc 24 [(.slice .none 0 0)]), .none⟩]) (.seq (.seq (.reg [⟨(.some 5), (.mv (.t 0)), .none⟩, ⟨(.some 6),
  (.call (.f 35) [(.t 5)]), .none⟩]) (.block 0 (.rfn (.t 6) 13 [7] as14_0 bd14_0))) (.seq (.reg [⟨(.some 12), (.ld .none (.t 3)), .none⟩, ⟨(.some 2), (.mv (.t 12)), .none⟩]) .ret))))
theorem c14 : Try.f14.body.bind (cCode Try.prog 13) = some a14 := by kernel_rfl
theorem r14 : Try.f14.results.toList = [(.tmp 2)] := by kernel_rfl
theorem n14 : Try.f14.ntmps = 13 := by kernel_rfl
theorem e14 : Enters Try.prog 14 := enters_of Try.func14 (by kernel_rfl) (by kernel_rfl)
def as15_0 : ACode :=
  (.reg [⟨(.some 4), (.alc 27 [(.int .i32 0), (.int .i64 0), (.int .i64 0)]), .none⟩, ⟨.none, (.st 3 (.t 4) (.t 7)), .none⟩])
def bd15_0 : ACode :=
  (.block 1 (.reg [⟨(.some 8), (.ld .none (.t 3)), .none⟩, ⟨(.some 9), (.fa 0 (.t 4)), .none⟩, ⟨(.some 10), (.ld .none (.t 9)), .none⟩, ⟨(.some 11), (.bs 21 1 [(.t 10)]), .none⟩, ⟨(.some 12), (.app 21 4
  (.t 8) (.t 11)), .none⟩, ⟨.none, (.st 1 (.t 3) (.t 12)), .none⟩]))
theorem was15_0 (F : Nat) (Q : Exit → State → Prop) (s : State) : awp Try.prog F as15_0 Q s = awp Try.prog F ((.reg [⟨(.some 4), (.alc 27 [(.int .i32 0), (.int .i64 0), (.int .i64 0)]), .none⟩, ⟨.none, (.st 3 (.t 4) (.t 7)), .none⟩])) Q s := rfl
attribute [go_sem] was15_0
theorem wbd15_0 (F : Nat) (Q : Exit → State → Prop) (s : State) : awp Try.prog F bd15_0 Q s = awp Try.prog F ((.block 1 (.reg [⟨(.some 8), (.ld .none (.t 3)), .none⟩, ⟨(.some 9), (.fa 0 (.t 4)), .none⟩, ⟨(.some 10), (.ld .none (.t 9)), .none⟩, ⟨(.some 11), (.bs 21 1 [(.t 10)]), .none⟩, ⟨(.some 12), (.app 21 4
  (.t 8) (.t 11)), .none⟩, ⟨.none, (.st 1 (.t 3) (.t 12)), .none⟩]))) Q s := rfl
attribute [go_sem] wbd15_0
def a15 : ACode :=
  (.seq (.reg [⟨(.some 2), (.mv (.k (.slice .none 0 0))), .none⟩]) (.seq (.reg [⟨(.some 3), (.alc 28 [(.slice .none 0 0)]), .none⟩]) (.seq (.seq (.reg [⟨(.some 5), (.mv (.t 0)), .none⟩, ⟨(.some 6),
  (.call (.f 35) [(.t 5)]), .none⟩]) (.block 0 (.rfn (.t 6) 14 [7] as15_0 bd15_0))) (.seq (.reg [⟨(.some 13), (.ld .none (.t 3)), .none⟩, ⟨(.some 2), (.mv (.t 13)), .none⟩]) .ret))))
theorem c15 : Try.f15.body.bind (cCode Try.prog 14) = some a15 := by kernel_rfl
theorem r15 : Try.f15.results.toList = [(.tmp 2)] := by kernel_rfl
theorem n15 : Try.f15.ntmps = 14 := by kernel_rfl
theorem e15 : Enters Try.prog 15 := enters_of Try.func15 (by kernel_rfl) (by kernel_rfl)

theorem goOn_len : ∀ (n lo hi r k : Nat) (t : List Nat), k ≤ (goOn n lo hi r k t).2.1 ∧ (goOn n lo hi r k t).2.1 ≤ k + t.length ∧ (goOn n lo hi r k t).2.1 ≤ k + n
  | 0, _, _, _, k, t => by simp [goOn]
  | n + 1, _, _, _, k, [] => by simp [goOn]
  | n + 1, lo, hi, r, k, x :: t => by
    simp only [goOn]
    split
    · simp
    · have := goOn_len n 128 191 (r * 64 + x % 64) (k + 1) t
      simp only [List.length_cons]
      omega

theorem nx_len (c : Nat) (t : List Nat) : 1 ≤ (nx (c :: t)).2.1 ∧ (nx (c :: t)).2.1 ≤ (c :: t).length ∧ (nx (c :: t)).2.1 ≤ 4 := by
  simp only [nx]
  split
  · rename_i h
    have := goOn_len (behindOf c) (lowOf c) (topOf c) (bitsOf c) 1 t
    have := (first_facts h).2.2.2.2.1
    simp only [List.length_cons]
    omega
  · simp

/-- The codes of bytes, their places counted from one on; each with whether it is said. -/
def cutF : Nat → Nat → List Nat → List (Nat × Nat × Nat × Bool)
  | 0, _, _ => []
  | _ + 1, _, [] => []
  | f + 1, at_, c :: t => ((nx (c :: t)).1, at_, at_ + (nx (c :: t)).2.1, (nx (c :: t)).2.2) :: cutF f (at_ + (nx (c :: t)).2.1) ((c :: t).drop (nx (c :: t)).2.1)
def cut (at_ : Nat) (b : List Nat) : List (Nat × Nat × Nat × Bool) := cutF b.length at_ b

theorem cutF_more : ∀ (f g at_ : Nat) (b : List Nat), b.length ≤ f → b.length ≤ g → cutF f at_ b = cutF g at_ b
  | 0, g, at_, b, hf, hg => by
    have : b = [] := List.eq_nil_of_length_eq_zero (by omega)
    subst this
    cases g <;> rfl
  | f + 1, 0, at_, b, hf, hg => by
    have : b = [] := List.eq_nil_of_length_eq_zero (by omega)
    subst this
    rfl
  | f + 1, g + 1, at_, [], hf, hg => rfl
  | f + 1, g + 1, at_, c :: t, hf, hg => by
    have := nx_len c t
    simp only [cutF]
    rw [cutF_more f g _ _ (by simp only [List.length_drop]; omega) (by simp only [List.length_drop]; omega)]
theorem cut_nil (at_ : Nat) : cut at_ [] = [] := rfl
theorem cut_cons (at_ c : Nat) (t : List Nat) : cut at_ (c :: t) = ((nx (c :: t)).1, at_, at_ + (nx (c :: t)).2.1, (nx (c :: t)).2.2) :: cut (at_ + (nx (c :: t)).2.1) ((c :: t).drop (nx (c :: t)).2.1) := by
  have := nx_len c t
  show cutF (t.length + 1) at_ (c :: t) = _
  simp only [cutF, cut]
  rw [cutF_more t.length ((c :: t).drop (nx (c :: t)).2.1).length _ _ (by simp only [List.length_drop, List.length_cons]; omega) (Nat.le_refl _)]
/-- Unfolded where one stands. -/
theorem cut_drop {b : List Nat} {i : Nat} (h : i < b.length) : cut i (b.drop i) = ((nx (b.drop i)).1, i, i + (nx (b.drop i)).2.1, (nx (b.drop i)).2.2) :: cut (i + (nx (b.drop i)).2.1) (b.drop (i + (nx (b.drop i)).2.1)) := by
  have e : b.drop i = b[i] :: b.drop (i + 1) := List.drop_eq_getElem_cons h
  have := cut_cons i b[i] (b.drop (i + 1))
  rw [← e, List.drop_drop] at this
  exact this
theorem nx_drop {b : List Nat} {i : Nat} (h : i < b.length) : 1 ≤ (nx (b.drop i)).2.1 ∧ i + (nx (b.drop i)).2.1 ≤ b.length ∧ (nx (b.drop i)).2.1 ≤ 4 := by
  have e : b.drop i = b[i] :: b.drop (i + 1) := List.drop_eq_getElem_cons h
  have := nx_len b[i] (b.drop (i + 1))
  rw [← e] at this
  simp only [List.length_drop] at this
  omega
theorem next_drop {b : List Nat} (hb : ∀ n ∈ b, n ≤ 255) (hl : b.length ≤ 4611686018427387904) {i : Nat} (h : i < b.length) : Pure Try.prog 59 [.sl 5 (octs (b.drop i)) none] [] (.tu [.lit (.int .i32 (nx (b.drop i)).1), .lit (.int .i64 (nx (b.drop i)).2.1)]) := by
  have e : b.drop i = b[i] :: b.drop (i + 1) := List.drop_eq_getElem_cons h
  rw [e]
  refine next_pure _ _ ?_ (by simp only [List.length_drop]; omega)
  rw [← e]
  exact fun n hn => hb n (List.mem_of_mem_drop hn)

theorem cut_length (at_ : Nat) (b : List Nat) : (cut at_ b).length ≤ b.length := by
  have key : ∀ (f at_ : Nat) (b : List Nat), b.length ≤ f → (cutF f at_ b).length ≤ b.length := by
    intro f
    induction f with
    | zero => intro at_ b h; simp [cutF]
    | succ f ih =>
      intro at_ b h
      cases b with
      | nil => simp [cutF]
      | cons c t =>
        have := nx_len c t
        have := ih (at_ + (nx (c :: t)).2.1) ((c :: t).drop (nx (c :: t)).2.1) (by simp only [List.length_drop]; omega)
        simp only [cutF, List.length_cons, List.length_drop] at this ⊢
        omega
  exact key _ _ _ (Nat.le_refl _)

def codeC (x : Nat × Nat × Nat × Bool) : List Value := [.int .i32 (x.1 : Int), .int .i64 (x.2.1 : Int), .int .i64 (x.2.2.1 : Int)]
def codesC (l : List (Nat × Nat × Nat × Bool)) : List (List Value) := l.map codeC

theorem codesC_length (l : List (Nat × Nat × Nat × Bool)) : (codesC l).length = l.length := by simp [codesC]

theorem slc_drop {b : List Nat} {i : Nat} (h : i ≤ b.length) : (if i ≤ b.length ∧ b.length ≤ b.length then some (i, b.length) else none : Option (Nat × Nat)) = some (i, b.length) := by rw [if_pos ⟨h, Nat.le_refl _⟩]

set_option maxRecDepth 10000 in
theorem codes_pure (b : List Nat) (hb : ∀ n ∈ b, n ≤ 255) (hl : b.length ≤ 1099511627776) : Pure Try.prog 14 [.sl 5 (octs b) none] [27] (.sl 27 (codesC (cut 0 b)) (some 0)) := by
  refine pure1 Try.func14 c14 n14 e14 r14 (by simp) ?_
  simp only [a14, astart, argSlots, go_sem, Nat.reduceAdd, Nat.reduceEqDiff, Nat.reduceLT, reduceIte, reduceCtorEq, Nat.reduceBEq, Int.reduceLT, Int.reduceToNat, Int.reducePow, Nat.reduceLeDiff, Int.reduceLE, Nat.reduceMul, Nat.reduceSub, allOne, AV.one, Value.oneCell']
  refine callGo_walk Try.func35 c35 n35 e35 r35 (by simp) ?_
  simp only [a35, astart, argSlots, go_sem, Nat.reduceAdd, Nat.reduceEqDiff, Nat.reduceLT, reduceIte, reduceCtorEq, Nat.reduceBEq, Int.reduceLT, Int.reduceToNat, Int.reducePow, Nat.reduceLeDiff, Int.reduceLE, Nat.reduceMul, Nat.reduceSub, allOne, AV.one]
  refine ⟨by simp, _, rfl, ?_⟩
  refine rfnGo_call [3] _ rfl ?_
  refine callOK_walk Try.func58 c58 n58 e58 r58 (by simp) ?_
  simp only [a58, astart, argSlots, go_sem, Nat.reduceAdd, Nat.reduceEqDiff, Nat.reduceLT, reduceIte, reduceCtorEq, Nat.reduceBEq, Int.reduceLT, Int.reduceToNat, Int.reducePow, Nat.reduceLeDiff, Int.reduceLE, Nat.reduceMul, Nat.reduceSub]
  refine ⟨fun s => ∃ (i : Nat) (acc : List (Nat × Nat × Nat × Bool)), i ≤ b.length ∧ acc.length ≤ i ∧ cut 0 b = acc ++ cut i (b.drop i) ∧
      s = ⟨[(0, some (.rf .yield 2)), (1, some (.bp 1 0)), (3, some (.lit (.int .i64 (i : Int))))],
        [(2, [.ob (.loop ⟨13, [3], [7], as14_0, bd14_0, .ready, none⟩) [.bp 0 0]]), (1, [.sl 5 (octs b) none]), (0, [.sl 27 (codesC acc) (some 3)])], [(3, 27)], 4⟩,
    fun s => b.length - cnt 3 s, ⟨_, (weak_nil_box 0 0 27 (cells := [.lit (.slice none 0 0)]) (by simp only [go_sem, Nat.reduceAdd, Nat.reduceEqDiff, Nat.reduceLT, reduceIte, reduceCtorEq, Nat.reduceBEq, Int.reduceLT, Int.reduceToNat, Int.reducePow, Nat.reduceLeDiff, Int.reduceLE, Nat.reduceMul, Nat.reduceSub]) rfl).trans (weak_by [0, 1, 2, 3] (by simp) rfl ?_ ?_ ?_ ?_), 0, [], Nat.zero_le _, Nat.zero_le _, rfl, rfl⟩, ?_⟩
  · simp only [go_sem, Nat.reduceAdd, Nat.reduceEqDiff, Nat.reduceLT, reduceIte, reduceCtorEq, Nat.reduceBEq, Int.reduceLT, Int.reduceToNat, Int.reducePow, Nat.reduceLeDiff, Int.reduceLE, Nat.reduceMul, Nat.reduceSub, slotsBy, boxesBy, tipsBy, rawAt, nm, AV.ren, AV.renL, AV.under, AV.underL, List.all_nil, List.all_cons, bne_self_eq_false, List.getD_cons_zero, List.getD_cons_succ, List.length_nil, List.length_cons, and_true, true_and, Int.natCast_zero]
  · simp only [go_sem, Nat.reduceAdd, Nat.reduceEqDiff, Nat.reduceLT, reduceIte, reduceCtorEq, Nat.reduceBEq, Int.reduceLT, Int.reduceToNat, Int.reducePow, Nat.reduceLeDiff, Int.reduceLE, Nat.reduceMul, Nat.reduceSub, slotsBy, boxesBy, tipsBy, rawAt, nm, AV.ren, AV.renL, AV.under, AV.underL, List.all_nil, List.all_cons, bne_self_eq_false, List.getD_cons_zero, List.getD_cons_succ, List.length_nil, List.length_cons, and_true, true_and, codesC, List.map_nil]
    simp
  · simp only [go_sem, Nat.reduceAdd, Nat.reduceEqDiff, Nat.reduceLT, reduceIte, reduceCtorEq, Nat.reduceBEq, Int.reduceLT, Int.reduceToNat, Int.reducePow, Nat.reduceLeDiff, Int.reduceLE, Nat.reduceMul, Nat.reduceSub, slotsBy, boxesBy, tipsBy, rawAt, nm, AV.ren, AV.renL, AV.under, AV.underL, List.all_nil, List.all_cons, bne_self_eq_false, List.getD_cons_zero, List.getD_cons_succ, List.length_nil, List.length_cons, and_true, true_and, beq_self_eq_true]
  · refine ⟨by simp, fun i hi => ?_⟩
    match i, hi with
    | 0, _ => rfl
    | 1, _ => rfl
    | 2, _ => rfl
  · rintro _ ⟨i, acc, hi, hacc, hcut, rfl⟩
    simp only [go_sem, Nat.reduceAdd, Nat.reduceEqDiff, Nat.reduceLT, reduceIte, reduceCtorEq, Nat.reduceBEq, Int.reduceLT, Int.reduceToNat, Int.reducePow, Nat.reduceLeDiff, Int.reduceLE, Nat.reduceMul, Nat.reduceSub]
    rcases Nat.lt_or_eq_of_le hi with hlt | heq
    · simp only [dec_lt hlt, slc_drop hi, go_sem, Nat.reduceAdd, Nat.reduceEqDiff, Nat.reduceLT, reduceIte, reduceCtorEq, Nat.reduceBEq, Int.reduceLT, Int.reduceToNat, Int.reducePow, Nat.reduceLeDiff, Int.reduceLE, Nat.reduceMul, Nat.reduceSub]
      rw [List.take_of_length_le (by simp [octs]), octs_drop]
      refine callGo_pure (next_drop hb (by omega) hlt) (by rfl) ?_
      have hk := nx_drop hlt
      have hc := cut_drop hlt
      generalize nx (b.drop i) = z at hk hc ⊢
      have hw : IntKind.i64.wrap ((i : Int) + (z.2.1 : Int)) = ((i + z.2.1 : Nat) : Int) := by rw [wrap_i64 _ (by omega) (by omega)]; omega
      simp only [hw, go_sem, Nat.reduceAdd, Nat.reduceEqDiff, Nat.reduceLT, reduceIte, reduceCtorEq, Nat.reduceBEq, Int.reduceLT, Int.reduceToNat, Int.reducePow, Nat.reduceLeDiff, Int.reduceLE, Nat.reduceMul, Nat.reduceSub, allOne, AV.one, Value.oneCell']
      refine callGo_yield (i := ⟨13, [3], [7], as14_0, bd14_0, .ready, none⟩) (cells := [.bp 0 0]) (by simp only [go_sem, Nat.reduceAdd, Nat.reduceEqDiff, Nat.reduceLT, reduceIte, reduceCtorEq, Nat.reduceBEq, Int.reduceLT, Int.reduceToNat, Int.reducePow, Nat.reduceLeDiff, Int.reduceLE, Nat.reduceMul, Nat.reduceSub]) rfl rfl ?_
      simp only [go_sem, Nat.reduceAdd, Nat.reduceEqDiff, Nat.reduceLT, reduceIte, reduceCtorEq, Nat.reduceBEq, Int.reduceLT, Int.reduceToNat, Int.reducePow, Nat.reduceLeDiff, Int.reduceLE, Nat.reduceMul, Nat.reduceSub, allOne, AV.one, Value.oneCell', Int.natCast_zero, Nat.le_refl]
      rw [hc] at hcut
      refine ⟨by rw [codesC_length]; omega, _, weak_by [0, 1, 2, 6] (by simp) rfl ?_ ?_ ?_ ?_, ⟨i + z.2.1, acc ++ [(z.1, i, i + z.2.1, z.2.2)], hk.2.1, by simp only [List.length_append, List.length_cons, List.length_nil]; omega, by rw [hcut]; simp, rfl⟩, ?_⟩
      · simp only [go_sem, Nat.reduceAdd, Nat.reduceEqDiff, Nat.reduceLT, reduceIte, reduceCtorEq, Nat.reduceBEq, Int.reduceLT, Int.reduceToNat, Int.reducePow, Nat.reduceLeDiff, Int.reduceLE, Nat.reduceMul, Nat.reduceSub, slotsBy, boxesBy, tipsBy, rawAt, nm, AV.ren, AV.renL, AV.under, AV.underL, List.all_nil, List.all_cons, bne_self_eq_false, List.getD_cons_zero, List.getD_cons_succ, List.length_nil, List.length_cons, and_true, true_and, hw]
      · simp only [go_sem, Nat.reduceAdd, Nat.reduceEqDiff, Nat.reduceLT, reduceIte, reduceCtorEq, Nat.reduceBEq, Int.reduceLT, Int.reduceToNat, Int.reducePow, Nat.reduceLeDiff, Int.reduceLE, Nat.reduceMul, Nat.reduceSub, slotsBy, boxesBy, tipsBy, rawAt, nm, AV.ren, AV.renL, AV.under, AV.underL, List.all_nil, List.all_cons, bne_self_eq_false, List.getD_cons_zero, List.getD_cons_succ, List.length_nil, List.length_cons, and_true, true_and, codesC, List.map_append, codeC]
        simp
      · simp only [go_sem, Nat.reduceAdd, Nat.reduceEqDiff, Nat.reduceLT, reduceIte, reduceCtorEq, Nat.reduceBEq, Int.reduceLT, Int.reduceToNat, Int.reducePow, Nat.reduceLeDiff, Int.reduceLE, Nat.reduceMul, Nat.reduceSub, slotsBy, boxesBy, tipsBy, rawAt, nm, AV.ren, AV.renL, AV.under, AV.underL, List.all_nil, List.all_cons, bne_self_eq_false, List.getD_cons_zero, List.getD_cons_succ, List.length_nil, List.length_cons, and_true, true_and, beq_self_eq_true]
      · refine ⟨by simp, fun i hi => ?_⟩
        match i, hi with
        | 0, _ => rfl
        | 1, _ => rfl
        | 2, _ => rfl
      · simp only [cnt, go_sem, Nat.reduceAdd, Nat.reduceEqDiff, Nat.reduceLT, reduceIte, reduceCtorEq, Nat.reduceBEq, Int.reduceLT, Int.reduceToNat, Int.reducePow, Nat.reduceLeDiff, Int.reduceLE, Nat.reduceMul, Nat.reduceSub, Int.toNat_natCast]; omega
    · subst heq
      rw [List.drop_length, cut_nil, List.append_nil] at hcut
      simp only [dec_irr, go_sem, Nat.reduceAdd, Nat.reduceEqDiff, Nat.reduceLT, reduceIte, reduceCtorEq, Nat.reduceBEq, Int.reduceLT, Int.reduceToNat, Int.reducePow, Nat.reduceLeDiff, Int.reduceLE, Nat.reduceMul, Nat.reduceSub]
      refine ⟨by simp, _, rfl, ?_⟩
      simp only [rfnPost, go_sem, Nat.reduceAdd, Nat.reduceEqDiff, Nat.reduceLT, reduceIte, reduceCtorEq, Nat.reduceBEq, Int.reduceLT, Int.reduceToNat, Int.reducePow, Nat.reduceLeDiff, Int.reduceLE, Nat.reduceMul, Nat.reduceSub, hcut]
      exact ⟨.inr rfl, 3, by simp only [resAV, resL, resOne, go_sem, Nat.reduceAdd, Nat.reduceEqDiff, Nat.reduceLT, reduceIte, reduceCtorEq, Nat.reduceBEq, Int.reduceLT, Int.reduceToNat, Int.reducePow, Nat.reduceLeDiff, Int.reduceLE, Nat.reduceMul, Nat.reduceSub], by simp [go_sem, Nat.reduceAdd, Nat.reduceEqDiff, Nat.reduceLT, reduceIte, reduceCtorEq, Nat.reduceBEq, Int.reduceLT, Int.reduceToNat, Int.reducePow, Nat.reduceLeDiff, Int.reduceLE, Nat.reduceMul, Nat.reduceSub]⟩
end Go.Proofs.Ytbnaepdeakcljaa
