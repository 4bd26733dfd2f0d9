/-
A label's level, as the program tells it. Conditions: none.
-/
import Derived.Test.YtocaeclhmkojiaaMix5
set_option linter.unusedSimpArgs false
set_option linter.unusedVariables false
set_option linter.unusedSectionVars false
namespace Go.Proofs.Ytocaeclhmkojiaa
open Go Go.Ab
def a81 : ACode :=
  (.seq (.reg [⟨(.some 4), (.mv (.k (.int .i64 0))), .none⟩]) (.seq (.seq (.reg [⟨(.some 6), (.mv (.t 0)), .none⟩, ⟨(.some 7), (.len (.t 6)), .none⟩, ⟨(.some 8), (.mv (.k (.int .i64 0))), .none⟩])
  (.block 0 (.loop (.seq (.reg [⟨(.some 9), (.bin .lss (.t 8) (.t 7)), .none⟩]) (.seq (.cond (.t 9) .skip (.exit 0)) (.seq (.block 1 (.seq (.reg [⟨(.some 10), (.mv (.t 8)), .none⟩, ⟨(.some 5), (.mv (.t
  10)), .none⟩]) (.seq (.reg [⟨(.some 11), (.mv (.t 1)), .none⟩, ⟨(.some 12), (.mv (.t 0)), .none⟩, ⟨(.some 13), (.mv (.t 5)), .none⟩, ⟨(.some 14), (.ia 21 (.t 12) (.t 13)), .none⟩, ⟨(.some 15), (.ld
  .none (.t 14)), .none⟩, ⟨(.some 16), (.call (.t 11) [(.t 15)]), .none⟩]) (.cond (.t 16) (.seq (.reg [⟨(.some 17), (.mv (.t 5)), .none⟩, ⟨(.some 4), (.mv (.t 17)), .none⟩]) .ret) .skip)))) (.reg
  [⟨(.some 18), (.bin .add (.t 8) (.k (.int .i64 1))), .none⟩, ⟨(.some 8), (.mv (.t 18)), .none⟩]))))))) (.seq (.reg [⟨(.some 4), (.mv (.k (.int .i64 (-1)))), .none⟩]) .ret)))
theorem c81 : Try.f81.body.bind (cCode Try.prog 19) = some a81 := by kernel_rfl
theorem r81 : Try.f81.results.toList = [(.tmp 4)] := by kernel_rfl
theorem n81 : Try.f81.ntmps = 19 := by kernel_rfl
theorem e81 : Enters Try.prog 81 := enters_of Try.func81 (by kernel_rfl) (by kernel_rfl)
def a44 : ACode :=
  (.seq (.reg [⟨(.some 4), (.mv (.k (.bool false))), .none⟩]) (.seq (.reg [⟨(.some 5), (.mv (.t 0)), .none⟩, ⟨(.some 6), (.mv (.t 1)), .none⟩, ⟨(.some 7), (.call (.f 81) [(.t 5), (.t 6)]), .none⟩,
  ⟨(.some 8), (.bin .geq (.t 7) (.k (.int .i64 0))), .none⟩, ⟨(.some 4), (.mv (.t 8)), .none⟩]) .ret))
theorem c44 : Try.f44.body.bind (cCode Try.prog 9) = some a44 := by kernel_rfl
theorem r44 : Try.f44.results.toList = [(.tmp 4)] := by kernel_rfl
theorem n44 : Try.f44.ntmps = 9 := by kernel_rfl
theorem e44 : Enters Try.prog 44 := enters_of Try.func44 (by kernel_rfl) (by kernel_rfl)
def a27 : ACode :=
  (.seq (.reg [⟨(.some 2), (.mv (.k (.int .u8 0))), .none⟩]) (.seq (.reg [⟨(.some 4), (.mv (.t 0)), .none⟩, ⟨(.some 5), (.call (.f 58) [(.t 4)]), .none⟩, ⟨(.some 3), (.alc 66 [(.int .i64 0), (.int .i64
  0), (.int .i64 0), (.int .i64 0), (.int .i64 0), (.int .i64 0), (.int .i64 0), (.int .i64 0), (.int .i64 0), (.int .i64 0), (.int .i64 0), (.int .i64 0)]), .none⟩, ⟨.none, (.st 12 (.t 3) (.t 5)),
  .none⟩]) (.seq (.block 0 (.seq (.reg [⟨(.some 7), (.mv (.t 0)), .none⟩, ⟨(.some 8), (.call (.f 44) [(.t 7), (.f 60)]), .none⟩, ⟨(.some 9), (.not (.t 8)), .none⟩, ⟨(.some 6), (.mv (.t 9)), .none⟩])
  (.cond (.t 6) (.seq (.reg [⟨(.some 2), (.mv (.k (.int .u8 1))), .none⟩]) .ret) (.seq (.reg [⟨(.some 11), (.ld (.some 12) (.t 3)), .none⟩, ⟨(.some 12), (.call (.f 61) [(.t 11)]), .none⟩, ⟨(.some 13),
  (.bin .lss (.t 12) (.k (.int .i64 2))), .none⟩, ⟨(.some 14), (.mv (.t 13)), .none⟩, ⟨(.some 15), (.ld (.some 12) (.t 3)), (.some (14, false))⟩, ⟨(.some 16), (.call (.f 62) [(.t 15)]), (.some (14,
  false))⟩, ⟨(.some 17), (.pick (.t 14) (.k (.bool true)) (.t 16)), .none⟩, ⟨(.some 10), (.mv (.t 17)), .none⟩]) (.cond (.t 10) (.seq (.reg [⟨(.some 2), (.mv (.k (.int .u8 2))), .none⟩]) .ret) (.seq
  (.reg [⟨(.some 19), (.ld (.some 12) (.t 3)), .none⟩, ⟨(.some 20), (.bs 5 1 [(.k (.int .u8 2))]), .none⟩, ⟨(.some 21), (.call (.f 63) [(.t 19), (.t 20)]), .none⟩, ⟨(.some 22), (.call (.f 62) [(.t
  21)]), .none⟩, ⟨(.some 18), (.mv (.t 22)), .none⟩]) (.cond (.t 18) (.seq (.reg [⟨(.some 2), (.mv (.k (.int .u8 3))), .none⟩]) .ret) .skip))))))) (.seq (.reg [⟨(.some 2), (.mv (.k (.int .u8 4))),
  .none⟩]) .ret))))
theorem c27 : Try.f27.body.bind (cCode Try.prog 23) = some a27 := by kernel_rfl
theorem r27 : Try.f27.results.toList = [(.tmp 2)] := by kernel_rfl
theorem n27 : Try.f27.ntmps = 23 := by kernel_rfl
theorem e27 : Enters Try.prog 27 := enters_of Try.func27 (by kernel_rfl) (by kernel_rfl)
def a60 : ACode :=
  (.seq (.reg [⟨(.some 2), (.mv (.k (.bool false))), .none⟩]) (.seq (.reg [⟨(.some 3), (.mv (.t 0)), .none⟩, ⟨(.some 4), (.bin .lss (.t 3) (.k (.int .i32 0))), .none⟩, ⟨(.some 5), (.mv (.t 4)), .none⟩,
  ⟨(.some 6), (.mv (.t 0)), (.some (5, false))⟩, ⟨(.some 7), (.bin .geq (.t 6) (.k (.int .i32 128))), (.some (5, false))⟩, ⟨(.some 8), (.pick (.t 5) (.k (.bool true)) (.t 7)), .none⟩, ⟨(.some 2), (.mv
  (.t 8)), .none⟩]) .ret))
theorem c60 : Try.f60.body.bind (cCode Try.prog 9) = some a60 := by kernel_rfl
theorem r60 : Try.f60.results.toList = [(.tmp 2)] := by kernel_rfl
theorem n60 : Try.f60.ntmps = 9 := by kernel_rfl
theorem e60 : Enters Try.prog 60 := enters_of Try.func60 (by kernel_rfl) (by kernel_rfl)
def a31 : ACode :=
  (.seq (.reg [⟨(.some 2), (.mv (.k (.int .u8 0))), .none⟩]) (.seq (.block 0 (.seq (.reg [⟨(.some 4), (.mv (.t 0)), .none⟩, ⟨(.some 5), (.call (.f 27) [(.t 4)]), .none⟩, ⟨(.some 6), (.bin .eql (.t 5)
  (.k (.int .u8 4))), .none⟩, ⟨(.some 3), (.mv (.t 6)), .none⟩]) (.cond (.t 3) (.seq (.reg [⟨(.some 2), (.mv (.k (.int .u8 13))), .none⟩]) .ret) (.seq (.reg [⟨(.some 8), (.mv (.t 0)), .none⟩, ⟨(.some
  9), (.call (.f 29) [(.t 8)]), .none⟩, ⟨(.some 10), (.not (.t 9)), .none⟩, ⟨(.some 7), (.mv (.t 10)), .none⟩]) (.cond (.t 7) (.seq (.reg [⟨(.some 2), (.mv (.k (.int .u8 14))), .none⟩]) .ret) .skip)))))
  (.seq (.reg [⟨(.some 2), (.mv (.k (.int .u8 0))), .none⟩]) .ret)))
theorem c31 : Try.f31.body.bind (cCode Try.prog 11) = some a31 := by kernel_rfl
theorem r31 : Try.f31.results.toList = [(.tmp 2)] := by kernel_rfl
theorem n31 : Try.f31.ntmps = 11 := by kernel_rfl
theorem e31 : Enters Try.prog 31 := enters_of Try.func31 (by kernel_rfl) (by kernel_rfl)

theorem dec_lt {i n : Nat} (h : i < n) : decide ((i : Int) < (n : Int)) = true := by simp only [decide_eq_true_eq]; omega
theorem dec_irr (n : Int) : decide (n < n) = false := by simp
theorem dec_nonneg (n : Nat) : decide ((n : Int) ≥ 0) = true := by simp
attribute [go_sem] dec_lt dec_irr dec_nonneg Int.natCast_nonneg Int.toNat_natCast runes_length octs_length

/-- The first one of which it holds. -/
def firstOf (p : Int → Bool) (l : List Int) : Int := match l.findIdx? p with
  | some i => (i : Int)
  | none => -1

theorem firstOf_at {p : Int → Bool} {l : List Int} {i : Nat} (hi : i < l.length) (h : ∀ j : Nat, j < i → ∀ r, l[j]? = some r → p r = false) (hp : p l[i] = true) : firstOf p l = i := by
  have : l.findIdx? p = some i := by
    rw [List.findIdx?_eq_some_iff_getElem]
    exact ⟨hi, hp, fun j hj => by simp [h j hj l[j] (List.getElem?_eq_getElem (by omega))]⟩
  simp only [firstOf, this]

theorem firstOf_none {p : Int → Bool} {l : List Int} (h : ∀ j : Nat, j < l.length → ∀ r, l[j]? = some r → p r = false) : firstOf p l = -1 := by
  have : l.findIdx? p = none := by
    rw [List.findIdx?_eq_none_iff]
    intro x hx
    obtain ⟨j, hj, rfl⟩ := List.getElem_of_mem hx
    exact h j hj _ (List.getElem?_eq_getElem hj)
  simp only [firstOf, this]

theorem firstOf_any (p : Int → Bool) (l : List Int) : decide (firstOf p l ≥ 0) = l.any p := by
  unfold firstOf
  split
  · rename_i i h
    rw [List.findIdx?_eq_some_iff_getElem] at h
    obtain ⟨h1, h2, _⟩ := h
    have : l.any p = true := List.any_eq_true.2 ⟨_, List.getElem_mem h1, h2⟩
    simp [this]
  · rename_i h
    rw [List.findIdx?_eq_none_iff] at h
    have : l.any p = false := by rw [List.any_eq_false]; intro x hx; simp [h x hx]
    simp [this]

theorem eraseL_append {a b a' b' : List AV} (ha : AV.eraseL a = some a') (hb : AV.eraseL b = some b') : AV.eraseL (a ++ b) = some (a' ++ b') := by
  induction a generalizing a' with
  | nil => simp only [AV.eraseL, Option.some.injEq] at ha; subst ha; simpa using hb
  | cons x xs ih =>
    simp only [AV.eraseL] at ha
    split at ha
    · rename_i u v hu hv
      simp only [Option.some.injEq] at ha; subst ha
      simp only [List.cons_append, AV.eraseL, hu, ih hv]
    · cases ha

/-- Functions of one code point that only compute, handed on as values. -/
structure IsTest (g : FuncId) (first cap : List AV) (p : Int → Bool) (l : List Int) : Prop where
  e1 : AV.eraseL first = some first
  e2 : AV.eraseL cap = some cap
  f0 : AV.underL 0 first = true
  c0 : AV.underL 0 cap = true
  pure : ∀ r ∈ l, Pure Try.prog g (first ++ [.lit (.int .i32 r)] ++ cap) [] (.lit (.bool (p r)))

set_option maxRecDepth 10000 in
theorem indexFunc_pure (l : List Int) (hl : l.length ≤ 4611686018427387904) {g : FuncId} {first cap : List AV} {p : Int → Bool} (ht : IsTest g first cap p l) :
    Pure Try.prog 81 [.sl 21 (runes l) none, .fn (.func g) first cap] [] (.lit (.int .i64 (firstOf p l))) := by
  refine pure0 Try.func81 c81 n81 e81 r81 (by simp) rfl ?_
  simp only [a81, astart, argSlots, go_sem, Nat.reduceAdd, Nat.reduceEqDiff, Nat.reduceLT, reduceIte, reduceCtorEq, Nat.reduceBEq, Int.reduceLT, Int.reduceToNat, Int.reducePow, Nat.reduceLeDiff, Int.reduceLE, Nat.reduceMul, Nat.reduceSub]
  refine loop_to l.length (fun i => ⟨[(0, some (.sl 21 (runes l) none)), (1, some (.fn (.func g) first cap)), (7, some (.lit (.int .i64 l.length))), (8, some (.lit (.int .i64 i)))], [], [], 0⟩)
    (fun i => ∀ j : Nat, j < i → ∀ r, l[j]? = some r → p r = false) (weak_by [] List.nodup_nil rfl ?_ trivial trivial (by simp)) (fun j hj => by omega) ?_ ?_
  · simp only [go_sem, Nat.reduceAdd, Nat.reduceEqDiff, Nat.reduceLT, reduceIte, reduceCtorEq, Nat.reduceBEq, Int.reduceLT, Int.reduceToNat, Int.reducePow, Nat.reduceLeDiff, Int.reduceLE, Nat.reduceMul, Nat.reduceSub, slotsBy, boxesBy, tipsBy, rawAt, nm, AV.ren, AV.renL, AV.under, AV.underL, List.all_nil, List.all_cons, bne_self_eq_false, List.getD_cons_zero, List.getD_cons_succ, List.length_nil, List.length_cons, and_true, true_and, Int.natCast_zero, AV.renL_under0 _ _ ht.f0, AV.renL_under0 _ _ ht.c0, ht.f0, ht.c0, Bool.and_self]
  · intro i hi hp
    simp only [go_sem, Nat.reduceAdd, Nat.reduceEqDiff, Nat.reduceLT, reduceIte, reduceCtorEq, Nat.reduceBEq, Int.reduceLT, Int.reduceToNat, Int.reducePow, Nat.reduceLeDiff, Int.reduceLE, Nat.reduceMul, Nat.reduceSub, hi, runes_get l i hi]
    refine callGo_pure (ht.pure _ (List.getElem_mem hi)) (eraseL_append (eraseL_append ht.e1 rfl) ht.e2) ?_
    simp only [go_sem, Nat.reduceAdd, Nat.reduceEqDiff, Nat.reduceLT, reduceIte, reduceCtorEq, Nat.reduceBEq, Int.reduceLT, Int.reduceToNat, Int.reducePow, Nat.reduceLeDiff, Int.reduceLE, Nat.reduceMul, Nat.reduceSub]
    refine cGo_split (fun h1 => ?_) (fun h1 => ?_)
    · simp only [go_sem, Nat.reduceAdd, Nat.reduceEqDiff, Nat.reduceLT, reduceIte, reduceCtorEq, Nat.reduceBEq, Int.reduceLT, Int.reduceToNat, Int.reducePow, Nat.reduceLeDiff, Int.reduceLE, Nat.reduceMul, Nat.reduceSub]
      simp only [Done, resAV, resL, resOne, look_nil, look_cons, Nat.reduceEqDiff, if_true, if_false, reduceIte, ite_true, ite_false, Nat.zero_ne_one, Nat.one_ne_zero, reduceCtorEq, true_or, or_true, true_and, Option.some.injEq, AV.lit.injEq, Value.int.injEq, Value.bool.injEq]
      exact (firstOf_at hi hp h1).symm
    · simp only [go_sem, Nat.reduceAdd, Nat.reduceEqDiff, Nat.reduceLT, reduceIte, reduceCtorEq, Nat.reduceBEq, Int.reduceLT, Int.reduceToNat, Int.reducePow, Nat.reduceLeDiff, Int.reduceLE, Nat.reduceMul, Nat.reduceSub]
      simp (disch := omega) only [wrap_i64]
      refine ⟨weak_by [] List.nodup_nil rfl ?_ trivial trivial (by simp), ?_⟩
      · simp only [go_sem, Nat.reduceAdd, Nat.reduceEqDiff, Nat.reduceLT, reduceIte, reduceCtorEq, Nat.reduceBEq, Int.reduceLT, Int.reduceToNat, Int.reducePow, Nat.reduceLeDiff, Int.reduceLE, Nat.reduceMul, Nat.reduceSub, slotsBy, boxesBy, tipsBy, rawAt, nm, AV.ren, AV.renL, AV.under, AV.underL, List.all_nil, List.all_cons, bne_self_eq_false, List.getD_cons_zero, List.getD_cons_succ, List.length_nil, List.length_cons, and_true, true_and, Int.natCast_add, Int.natCast_one, AV.renL_under0 _ _ ht.f0, AV.renL_under0 _ _ ht.c0, ht.f0, ht.c0, Bool.and_self]
      · intro j hj r hjr
        rcases Nat.lt_succ_iff_lt_or_eq.1 hj with hj | hj
        · exact hp j hj r hjr
        · subst hj
          rw [List.getElem?_eq_getElem hi, Option.some.injEq] at hjr
          subst hjr; exact h1
  · intro hp
    simp only [go_sem, Nat.reduceAdd, Nat.reduceEqDiff, Nat.reduceLT, reduceIte, reduceCtorEq, Nat.reduceBEq, Int.reduceLT, Int.reduceToNat, Int.reducePow, Nat.reduceLeDiff, Int.reduceLE, Nat.reduceMul, Nat.reduceSub]
    simp only [Done, resAV, resL, resOne, look_nil, look_cons, Nat.reduceEqDiff, if_true, if_false, reduceIte, ite_true, ite_false, Nat.zero_ne_one, Nat.one_ne_zero, reduceCtorEq, true_or, or_true, true_and, Option.some.injEq, AV.lit.injEq, Value.int.injEq, Value.bool.injEq]
    exact (firstOf_none hp).symm

theorem containsFunc_pure (l : List Int) (hl : l.length ≤ 4611686018427387904) {g : FuncId} {first cap : List AV} {p : Int → Bool} (ht : IsTest g first cap p l) :
    Pure Try.prog 44 [.sl 21 (runes l) none, .fn (.func g) first cap] [] (.lit (.bool (l.any p))) := by
  refine pure0 Try.func44 c44 n44 e44 r44 (by simp) rfl ?_
  simp only [a44, astart, argSlots, go_sem, Nat.reduceAdd, Nat.reduceEqDiff, Nat.reduceLT, reduceIte, reduceCtorEq, Nat.reduceBEq, Int.reduceLT, Int.reduceToNat, Int.reducePow, Nat.reduceLeDiff, Int.reduceLE, Nat.reduceMul, Nat.reduceSub]
  refine callGo_pure (indexFunc_pure l hl ht) (by simp only [List.append_nil, List.nil_append, AV.eraseL, AV.erase, ht.e1, ht.e2]) ?_
  simp only [go_sem, Nat.reduceAdd, Nat.reduceEqDiff, Nat.reduceLT, reduceIte, reduceCtorEq, Nat.reduceBEq, Int.reduceLT, Int.reduceToNat, Int.reducePow, Nat.reduceLeDiff, Int.reduceLE, Nat.reduceMul, Nat.reduceSub]
  simp only [Done, resAV, resL, resOne, look_nil, look_cons, Nat.reduceEqDiff, if_true, if_false, reduceIte, ite_true, ite_false, Nat.zero_ne_one, Nat.one_ne_zero, reduceCtorEq, true_or, or_true, true_and, Option.some.injEq, AV.lit.injEq, Value.int.injEq, Value.bool.injEq]
  exact firstOf_any p l

def wideOne (r : Int) : Bool := decide (r < 0) || decide (r ≥ 128)

theorem levelTest (l : List Int) : IsTest 60 [] [] wideOne l := ⟨rfl, rfl, rfl, rfl, fun r _ => by
  refine pure0 Try.func60 c60 n60 e60 r60 (by simp) rfl ?_
  simp only [a60, astart, argSlots, go_sem, Nat.reduceAdd, Nat.reduceEqDiff, Nat.reduceLT, reduceIte, reduceCtorEq, Nat.reduceBEq, Int.reduceLT, Int.reduceToNat, Int.reducePow, Nat.reduceLeDiff, Int.reduceLE, Nat.reduceMul, Nat.reduceSub]
  by_cases h1 : r < 0
  · simp only [h1, go_sem, Nat.reduceAdd, Nat.reduceEqDiff, Nat.reduceLT, reduceIte, reduceCtorEq, Nat.reduceBEq, Int.reduceLT, Int.reduceToNat, Int.reducePow, Nat.reduceLeDiff, Int.reduceLE, Nat.reduceMul, Nat.reduceSub]
    simp only [Done, resAV, resL, resOne, look_nil, look_cons, Nat.reduceEqDiff, if_true, if_false, reduceIte, ite_true, ite_false, Nat.zero_ne_one, Nat.one_ne_zero, reduceCtorEq, true_or, or_true, true_and, Option.some.injEq, AV.lit.injEq, Value.int.injEq, Value.bool.injEq]
    simp [wideOne, h1]
  · simp only [h1, go_sem, Nat.reduceAdd, Nat.reduceEqDiff, Nat.reduceLT, reduceIte, reduceCtorEq, Nat.reduceBEq, Int.reduceLT, Int.reduceToNat, Int.reducePow, Nat.reduceLeDiff, Int.reduceLE, Nat.reduceMul, Nat.reduceSub]
    simp only [Done, resAV, resL, resOne, look_nil, look_cons, Nat.reduceEqDiff, if_true, if_false, reduceIte, ite_true, ite_false, Nat.zero_ne_one, Nat.one_ne_zero, reduceCtorEq, true_or, or_true, true_and, Option.some.injEq, AV.lit.injEq, Value.int.injEq, Value.bool.injEq]
    simp [wideOne, h1]⟩

def levelOf (l : List Int) : Int :=
  if l.any wideOne = false then 1 else if total (counts l) < 2 ∨ eastOf (counts l) = true then 2 else if eastOf (cleared (counts l) [2]) = true then 3 else 4

theorem counts_01 (l : List Int) : ∀ c ∈ counts l, 0 ≤ c ∧ c ≤ 1 := by
  have key : ∀ (l : List Int) (cs : List Int), (∀ c ∈ cs, 0 ≤ c ∧ c ≤ 1) → ∀ c ∈ marked cs l, 0 ≤ c ∧ c ≤ 1 := by
    intro l
    induction l with
    | nil => intro cs h; exact h
    | cons r l ih =>
      intro cs h
      refine ih _ fun c hc => ?_
      rcases List.mem_or_eq_of_mem_set hc with hc | rfl
      · exact h c hc
      · omega
  intro c hc
  rcases List.mem_or_eq_of_mem_set hc with hc | rfl
  · rcases List.mem_or_eq_of_mem_set hc with hc | rfl
    · exact key l _ (by simp [List.mem_replicate]) c hc
    · omega
  · omega

theorem octs1 (a : Nat) : octs [a] = [[.int .u8 (a : Int)]] := rfl

set_option maxRecDepth 10000 in
theorem level_pure (l : List Int) (hl : l.length ≤ 4611686018427387904) : Pure Try.prog 27 [.sl 21 (runes l) none] [] (.lit (.int .u8 (levelOf l))) := by
  refine pure0 Try.func27 c27 n27 e27 r27 (by simp) rfl ?_
  have hc := counts_length l
  have h01 := counts_01 l
  simp only [a27, astart, argSlots, go_sem, Nat.reduceAdd, Nat.reduceEqDiff, Nat.reduceLT, reduceIte, reduceCtorEq, Nat.reduceBEq, Int.reduceLT, Int.reduceToNat, Int.reducePow, Nat.reduceLeDiff, Int.reduceLE, Nat.reduceMul, Nat.reduceSub]
  refine callGo_pure (counted_pure l hl) (by rfl) ?_
  have ht : (nums (counts l)).take 12 = nums (counts l) := List.take_of_length_le (by rw [nums_length]; omega)
  have hn : (nums (counts l)).length = 12 := by rw [nums_length]; exact hc
  simp only [go_sem, Nat.reduceAdd, Nat.reduceEqDiff, Nat.reduceLT, reduceIte, reduceCtorEq, Nat.reduceBEq, Int.reduceLT, Int.reduceToNat, Int.reducePow, Nat.reduceLeDiff, Int.reduceLE, Nat.reduceMul, Nat.reduceSub, shiftL_nums, AV.one, Value.oneCell', allOne, hn, nums_one, Nat.le_refl]
  refine callGo_pure (containsFunc_pure l hl (levelTest l)) (by rfl) ?_
  simp only [go_sem, Nat.reduceAdd, Nat.reduceEqDiff, Nat.reduceLT, reduceIte, reduceCtorEq, Nat.reduceBEq, Int.reduceLT, Int.reduceToNat, Int.reducePow, Nat.reduceLeDiff, Int.reduceLE, Nat.reduceMul, Nat.reduceSub]
  refine cGo_split (fun h1 => ?_) (fun h1 => ?_)
  · have h1' : l.any wideOne = false := by simpa using h1
    simp only [go_sem, Nat.reduceAdd, Nat.reduceEqDiff, Nat.reduceLT, reduceIte, reduceCtorEq, Nat.reduceBEq, Int.reduceLT, Int.reduceToNat, Int.reducePow, Nat.reduceLeDiff, Int.reduceLE, Nat.reduceMul, Nat.reduceSub]
    simp only [Done, resAV, resL, resOne, look_nil, look_cons, Nat.reduceEqDiff, if_true, if_false, reduceIte, ite_true, ite_false, Nat.zero_ne_one, Nat.one_ne_zero, reduceCtorEq, true_or, or_true, true_and, Option.some.injEq, AV.lit.injEq, Value.int.injEq, Value.bool.injEq]
    simp [levelOf, h1']
  · have h1' : l.any wideOne = true := by simpa using h1
    simp only [go_sem, Nat.reduceAdd, Nat.reduceEqDiff, Nat.reduceLT, reduceIte, reduceCtorEq, Nat.reduceBEq, Int.reduceLT, Int.reduceToNat, Int.reducePow, Nat.reduceLeDiff, Int.reduceLE, Nat.reduceMul, Nat.reduceSub, ht, hn, Nat.le_refl]
    refine callGo_pure (many_pure _ hc h01) (by simp only [List.append_nil, List.nil_append, AV.eraseL, AV.erase, eraseL_nums]) ?_
    simp only [go_sem, Nat.reduceAdd, Nat.reduceEqDiff, Nat.reduceLT, reduceIte, reduceCtorEq, Nat.reduceBEq, Int.reduceLT, Int.reduceToNat, Int.reducePow, Nat.reduceLeDiff, Int.reduceLE, Nat.reduceMul, Nat.reduceSub]
    refine gGo_splitF (fun h2 => ?_) (fun h2 => ?_)
    · have h2' : ¬ total (counts l) < 2 := by simpa using h2
      simp only [h2, go_sem, Nat.reduceAdd, Nat.reduceEqDiff, Nat.reduceLT, reduceIte, reduceCtorEq, Nat.reduceBEq, Int.reduceLT, Int.reduceToNat, Int.reducePow, Nat.reduceLeDiff, Int.reduceLE, Nat.reduceMul, Nat.reduceSub, ht, hn, Nat.le_refl]
      refine callGo_pure (east_pure _ hc) (by simp only [List.append_nil, List.nil_append, AV.eraseL, AV.erase, eraseL_nums]) ?_
      simp only [go_sem, Nat.reduceAdd, Nat.reduceEqDiff, Nat.reduceLT, reduceIte, reduceCtorEq, Nat.reduceBEq, Int.reduceLT, Int.reduceToNat, Int.reducePow, Nat.reduceLeDiff, Int.reduceLE, Nat.reduceMul, Nat.reduceSub]
      refine cGo_split (fun h3 => ?_) (fun h3 => ?_)
      · simp only [go_sem, Nat.reduceAdd, Nat.reduceEqDiff, Nat.reduceLT, reduceIte, reduceCtorEq, Nat.reduceBEq, Int.reduceLT, Int.reduceToNat, Int.reducePow, Nat.reduceLeDiff, Int.reduceLE, Nat.reduceMul, Nat.reduceSub]
        simp only [Done, resAV, resL, resOne, look_nil, look_cons, Nat.reduceEqDiff, if_true, if_false, reduceIte, ite_true, ite_false, Nat.zero_ne_one, Nat.one_ne_zero, reduceCtorEq, true_or, or_true, true_and, Option.some.injEq, AV.lit.injEq, Value.int.injEq, Value.bool.injEq]
        simp [levelOf, h1', h2', h3]
      · simp only [go_sem, Nat.reduceAdd, Nat.reduceEqDiff, Nat.reduceLT, reduceIte, reduceCtorEq, Nat.reduceBEq, Int.reduceLT, Int.reduceToNat, Int.reducePow, Nat.reduceLeDiff, Int.reduceLE, Nat.reduceMul, Nat.reduceSub, ht, hn, Nat.le_refl]
        refine callGo_pure (without_pure _ [2] hc (by simp) (by simp)) (by simp only [go_sem, Nat.reduceAdd, Nat.reduceEqDiff, Nat.reduceLT, reduceIte, reduceCtorEq, Nat.reduceBEq, Int.reduceLT, Int.reduceToNat, Int.reducePow, Nat.reduceLeDiff, Int.reduceLE, Nat.reduceMul, Nat.reduceSub, AV.eraseL, AV.erase, eraseL_nums, octs1]; rfl) ?_
        simp only [go_sem, Nat.reduceAdd, Nat.reduceEqDiff, Nat.reduceLT, reduceIte, reduceCtorEq, Nat.reduceBEq, Int.reduceLT, Int.reduceToNat, Int.reducePow, Nat.reduceLeDiff, Int.reduceLE, Nat.reduceMul, Nat.reduceSub, shiftL_nums]
        refine callGo_pure (east_pure (cleared (counts l) [2]) (by rw [cleared_length]; exact hc)) (by simp only [List.append_nil, List.nil_append, AV.eraseL, AV.erase, eraseL_nums]) ?_
        simp only [go_sem, Nat.reduceAdd, Nat.reduceEqDiff, Nat.reduceLT, reduceIte, reduceCtorEq, Nat.reduceBEq, Int.reduceLT, Int.reduceToNat, Int.reducePow, Nat.reduceLeDiff, Int.reduceLE, Nat.reduceMul, Nat.reduceSub]
        refine cGo_split (fun h4 => ?_) (fun h4 => ?_)
        · simp only [go_sem, Nat.reduceAdd, Nat.reduceEqDiff, Nat.reduceLT, reduceIte, reduceCtorEq, Nat.reduceBEq, Int.reduceLT, Int.reduceToNat, Int.reducePow, Nat.reduceLeDiff, Int.reduceLE, Nat.reduceMul, Nat.reduceSub]
          simp only [Done, resAV, resL, resOne, look_nil, look_cons, Nat.reduceEqDiff, if_true, if_false, reduceIte, ite_true, ite_false, Nat.zero_ne_one, Nat.one_ne_zero, reduceCtorEq, true_or, or_true, true_and, Option.some.injEq, AV.lit.injEq, Value.int.injEq, Value.bool.injEq]
          simp [levelOf, h1', h2', h3, h4]
        · simp only [go_sem, Nat.reduceAdd, Nat.reduceEqDiff, Nat.reduceLT, reduceIte, reduceCtorEq, Nat.reduceBEq, Int.reduceLT, Int.reduceToNat, Int.reducePow, Nat.reduceLeDiff, Int.reduceLE, Nat.reduceMul, Nat.reduceSub]
          simp only [Done, resAV, resL, resOne, look_nil, look_cons, Nat.reduceEqDiff, if_true, if_false, reduceIte, ite_true, ite_false, Nat.zero_ne_one, Nat.one_ne_zero, reduceCtorEq, true_or, or_true, true_and, Option.some.injEq, AV.lit.injEq, Value.int.injEq, Value.bool.injEq]
          simp [levelOf, h1', h2', h3, h4]
    · have h2' : total (counts l) < 2 := by simpa using h2
      simp only [h2, go_sem, Nat.reduceAdd, Nat.reduceEqDiff, Nat.reduceLT, reduceIte, reduceCtorEq, Nat.reduceBEq, Int.reduceLT, Int.reduceToNat, Int.reducePow, Nat.reduceLeDiff, Int.reduceLE, Nat.reduceMul, Nat.reduceSub]
      simp only [Done, resAV, resL, resOne, look_nil, look_cons, Nat.reduceEqDiff, if_true, if_false, reduceIte, ite_true, ite_false, Nat.zero_ne_one, Nat.one_ne_zero, reduceCtorEq, true_or, or_true, true_and, Option.some.injEq, AV.lit.injEq, Value.int.injEq, Value.bool.injEq]
      simp [levelOf, h1', h2']

def checkOf (l : List Int) : Int := if levelOf l = 4 then 13 else if oneSystem l = false then 14 else 0

set_option maxRecDepth 10000 in
theorem check_pure (l : List Int) (hl : l.length ≤ 4611686018427387904) : Pure Try.prog 31 [.sl 21 (runes l) none] [] (.lit (.int .u8 (checkOf l))) := by
  refine pure0 Try.func31 c31 n31 e31 r31 (by simp) rfl ?_
  simp only [a31, astart, argSlots, go_sem, Nat.reduceAdd, Nat.reduceEqDiff, Nat.reduceLT, reduceIte, reduceCtorEq, Nat.reduceBEq, Int.reduceLT, Int.reduceToNat, Int.reducePow, Nat.reduceLeDiff, Int.reduceLE, Nat.reduceMul, Nat.reduceSub]
  refine callGo_pure (level_pure l hl) (by rfl) ?_
  simp only [go_sem, Nat.reduceAdd, Nat.reduceEqDiff, Nat.reduceLT, reduceIte, reduceCtorEq, Nat.reduceBEq, Int.reduceLT, Int.reduceToNat, Int.reducePow, Nat.reduceLeDiff, Int.reduceLE, Nat.reduceMul, Nat.reduceSub]
  refine cGo_split (fun h1 => ?_) (fun h1 => ?_)
  · simp only [go_sem, Nat.reduceAdd, Nat.reduceEqDiff, Nat.reduceLT, reduceIte, reduceCtorEq, Nat.reduceBEq, Int.reduceLT, Int.reduceToNat, Int.reducePow, Nat.reduceLeDiff, Int.reduceLE, Nat.reduceMul, Nat.reduceSub]
    simp only [Done, resAV, resL, resOne, look_nil, look_cons, Nat.reduceEqDiff, if_true, if_false, reduceIte, ite_true, ite_false, Nat.zero_ne_one, Nat.one_ne_zero, reduceCtorEq, true_or, or_true, true_and, Option.some.injEq, AV.lit.injEq, Value.int.injEq, Value.bool.injEq]
    simp [checkOf, beq_iff_eq.1 h1]
  · simp only [go_sem, Nat.reduceAdd, Nat.reduceEqDiff, Nat.reduceLT, reduceIte, reduceCtorEq, Nat.reduceBEq, Int.reduceLT, Int.reduceToNat, Int.reducePow, Nat.reduceLeDiff, Int.reduceLE, Nat.reduceMul, Nat.reduceSub]
    refine callGo_pure (digits_pure l hl) (by rfl) ?_
    simp only [go_sem, Nat.reduceAdd, Nat.reduceEqDiff, Nat.reduceLT, reduceIte, reduceCtorEq, Nat.reduceBEq, Int.reduceLT, Int.reduceToNat, Int.reducePow, Nat.reduceLeDiff, Int.reduceLE, Nat.reduceMul, Nat.reduceSub]
    refine cGo_split (fun h2 => ?_) (fun h2 => ?_)
    · simp only [go_sem, Nat.reduceAdd, Nat.reduceEqDiff, Nat.reduceLT, reduceIte, reduceCtorEq, Nat.reduceBEq, Int.reduceLT, Int.reduceToNat, Int.reducePow, Nat.reduceLeDiff, Int.reduceLE, Nat.reduceMul, Nat.reduceSub]
      simp only [Done, resAV, resL, resOne, look_nil, look_cons, Nat.reduceEqDiff, if_true, if_false, reduceIte, ite_true, ite_false, Nat.zero_ne_one, Nat.one_ne_zero, reduceCtorEq, true_or, or_true, true_and, Option.some.injEq, AV.lit.injEq, Value.int.injEq, Value.bool.injEq]
      simp at h1 h2
      simp [checkOf, h1, h2]
    · simp only [go_sem, Nat.reduceAdd, Nat.reduceEqDiff, Nat.reduceLT, reduceIte, reduceCtorEq, Nat.reduceBEq, Int.reduceLT, Int.reduceToNat, Int.reducePow, Nat.reduceLeDiff, Int.reduceLE, Nat.reduceMul, Nat.reduceSub]
      simp only [Done, resAV, resL, resOne, look_nil, look_cons, Nat.reduceEqDiff, if_true, if_false, reduceIte, ite_true, ite_false, Nat.zero_ne_one, Nat.one_ne_zero, reduceCtorEq, true_or, or_true, true_and, Option.some.injEq, AV.lit.injEq, Value.int.injEq, Value.bool.injEq]
      simp at h1 h2
      simp [checkOf, h1, h2]
end Go.Proofs.Ytocaeclhmkojiaa
