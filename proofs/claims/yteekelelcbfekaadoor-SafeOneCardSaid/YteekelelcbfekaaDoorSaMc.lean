/-
Safe code points, codes of texts. Conditions: none.
-/
import Derived.Test.YteekelelcbfekaaDoorSaMk
import Derived.Test.YteekelelcbfekaaDoorSaMa
import Derived.Test.YteekelelcbfekaaDoorSaMb
set_option linter.unusedSimpArgs false
set_option linter.unusedVariables false
set_option linter.unusedSectionVars false

/-! ## Saf3D -/

namespace Go.Proofs.YteekelelcbfekaaDoor
open Go Go.Ab Go.ChangeShapes Go.WideShapes Go.ChangeAt Go.RowKit
def a47 : ACode :=
  (.seq (.reg [⟨(.some 4), (.mv (.k (.int .i64 0))), .none⟩]) (.seq (.seq (.reg [⟨(.some 6), (.mv (.t 0)), .none⟩, ⟨(.some 7), (.len (.t 6)), .none⟩, ⟨(.some 8), (.mv (.k (.int .i64 0))), .none⟩])
  (.block 0 (.loop (.seq (.reg [⟨(.some 9), (.bin .lss (.t 8) (.t 7)), .none⟩]) (.seq (.cond (.t 9) .skip (.exit 0)) (.seq (.block 1 (.seq (.reg [⟨(.some 10), (.mv (.t 8)), .none⟩, ⟨(.some 5), (.mv (.t
  10)), .none⟩]) (.seq (.reg [⟨(.some 11), (.mv (.t 1)), .none⟩, ⟨(.some 12), (.mv (.t 0)), .none⟩, ⟨(.some 13), (.mv (.t 5)), .none⟩, ⟨(.some 14), (.ia 21 (.t 12) (.t 13)), .none⟩, ⟨(.some 15), (.ld
  .none (.t 14)), .none⟩, ⟨(.some 16), (.bin .eql (.t 11) (.t 15)), .none⟩]) (.cond (.t 16) (.seq (.reg [⟨(.some 17), (.mv (.t 5)), .none⟩, ⟨(.some 4), (.mv (.t 17)), .none⟩]) .ret) .skip)))) (.reg
  [⟨(.some 18), (.bin .add (.t 8) (.k (.int .i64 1))), .none⟩, ⟨(.some 8), (.mv (.t 18)), .none⟩]))))))) (.seq (.reg [⟨(.some 4), (.mv (.k (.int .i64 (-1)))), .none⟩]) .ret)))
theorem c47 : Tryd.f47.body.bind (cCode Tryd.prog 19) = some a47 := by kernel_rfl
theorem r47 : Tryd.f47.results.toList = [(.tmp 4)] := by kernel_rfl
theorem n47 : Tryd.f47.ntmps = 19 := by kernel_rfl
theorem e47 : Enters Tryd.prog 47 := Go.Ab.enters_of Tryd.func47 (by kernel_rfl) (by kernel_rfl)
def a31 : ACode :=
  (.seq (.reg [⟨(.some 4), (.mv (.k (.bool false))), .none⟩]) (.seq (.reg [⟨(.some 5), (.mv (.t 0)), .none⟩, ⟨(.some 6), (.mv (.t 1)), .none⟩, ⟨(.some 7), (.call (.f 47) [(.t 5), (.t 6)]), .none⟩,
  ⟨(.some 8), (.bin .geq (.t 7) (.k (.int .i64 0))), .none⟩, ⟨(.some 4), (.mv (.t 8)), .none⟩]) .ret))
theorem c31 : Tryd.f31.body.bind (cCode Tryd.prog 9) = some a31 := by kernel_rfl
theorem r31 : Tryd.f31.results.toList = [(.tmp 4)] := by kernel_rfl
theorem n31 : Tryd.f31.ntmps = 9 := by kernel_rfl
theorem e31 : Enters Tryd.prog 31 := Go.Ab.enters_of Tryd.func31 (by kernel_rfl) (by kernel_rfl)

theorem index32_pure (l : List Int) (x : Int) (hl : l.length ≤ 1000000) : Pure Tryd.prog 47 [.sl 21 (runes l) none, .lit (.int .i32 x)] [] (.lit (.int .i64 (if l.any (fun (s : Int) => x == s) then ((l.findIdx fun (s : Int) => x == s : Nat) : Int) else -1))) := by
  refine pure0 Tryd.func47 c47 n47 e47 r47 (by simp) rfl ?_
  simp only [a47, astart, argSlots, go_sem, Nat.reduceAdd, Nat.reduceEqDiff, Nat.reduceLT, reduceIte, reduceCtorEq, Nat.reduceBEq, Int.reduceLT, Int.reduceToNat, Int.reducePow, Nat.reduceLeDiff, Int.reduceLE, Nat.reduceMul, Nat.reduceSub, runes_length]
  refine loop_to l.length (fun i => ⟨[(0, some (.sl 21 (runes l) none)), (1, some (.lit (.int .i32 x))), (7, some (.lit (.int .i64 l.length))), (8, some (.lit (.int .i64 i)))], [], [], 0⟩)
    (fun i => ∀ j : Nat, j < i → ∀ r, l[j]? = some r → (x == r) = false) (weak_by [] List.nodup_nil rfl ?_ trivial trivial (by simp)) (fun j hj => by omega) ?_ ?_
  · simp only [go_sem, Nat.reduceAdd, Nat.reduceEqDiff, Nat.reduceLT, reduceIte, reduceCtorEq, Nat.reduceBEq, Int.reduceLT, Int.reduceToNat, Int.reducePow, Nat.reduceLeDiff, Int.reduceLE, Nat.reduceMul, Nat.reduceSub, slotsBy, boxesBy, tipsBy, rawAt, nm, AV.ren, AV.renL, AV.under, AV.underL, List.all_nil, List.all_cons, bne_self_eq_false, List.getD_cons_zero, List.getD_cons_succ, List.length_nil, List.length_cons, and_true, true_and, Int.natCast_zero]
  · intro i hi hp
    simp only [go_sem, Nat.reduceAdd, Nat.reduceEqDiff, Nat.reduceLT, reduceIte, reduceCtorEq, Nat.reduceBEq, Int.reduceLT, Int.reduceToNat, Int.reducePow, Nat.reduceLeDiff, Int.reduceLE, Nat.reduceMul, Nat.reduceSub, dec_lt hi, hi, runes_get l i hi, Int.natCast_nonneg, Int.toNat_natCast]
    cases he : (x == l[i])
    · simp only [go_sem, Nat.reduceAdd, Nat.reduceEqDiff, Nat.reduceLT, reduceIte, reduceCtorEq, Nat.reduceBEq, Int.reduceLT, Int.reduceToNat, Int.reducePow, Nat.reduceLeDiff, Int.reduceLE, Nat.reduceMul, Nat.reduceSub]
      simp (disch := omega) only [wrap_i64]
      refine ⟨weak_by [] List.nodup_nil rfl ?_ trivial trivial (by simp), ?_⟩
      · simp only [go_sem, Nat.reduceAdd, Nat.reduceEqDiff, Nat.reduceLT, reduceIte, reduceCtorEq, Nat.reduceBEq, Int.reduceLT, Int.reduceToNat, Int.reducePow, Nat.reduceLeDiff, Int.reduceLE, Nat.reduceMul, Nat.reduceSub, slotsBy, boxesBy, tipsBy, rawAt, nm, AV.ren, AV.renL, AV.under, AV.underL, List.all_nil, List.all_cons, bne_self_eq_false, List.getD_cons_zero, List.getD_cons_succ, List.length_nil, List.length_cons, and_true, true_and, Int.natCast_add, Int.natCast_one]
      · intro j hj r hjr
        rcases Nat.lt_succ_iff_lt_or_eq.1 hj with hj | hj
        · exact hp j hj r hjr
        · subst hj
          rw [List.getElem?_eq_getElem hi, Option.some.injEq] at hjr
          subst hjr; exact he
    · simp only [go_sem, Nat.reduceAdd, Nat.reduceEqDiff, Nat.reduceLT, reduceIte, reduceCtorEq, Nat.reduceBEq, Int.reduceLT, Int.reduceToNat, Int.reducePow, Nat.reduceLeDiff, Int.reduceLE, Nat.reduceMul, Nat.reduceSub]
      simp only [Done, resAV, resL, resOne, look_nil, look_cons, Nat.reduceEqDiff, if_true, if_false, reduceIte, ite_true, ite_false, Nat.zero_ne_one, Nat.one_ne_zero, reduceCtorEq, true_or, or_true, true_and, Option.some.injEq, AV.lit.injEq, Value.int.injEq, Value.bool.injEq]
      have hany : l.any (fun (s : Int) => x == s) = true := List.any_eq_true.2 ⟨_, List.getElem_mem hi, he⟩
      rw [if_pos hany]
      have hf : l.findIdx (fun (s : Int) => x == s) = i := by
        rw [List.findIdx_eq hi]
        refine ⟨he, fun j hj => ?_⟩
        exact hp j hj _ (List.getElem?_eq_getElem _)
      rw [hf]
  · intro hp
    simp only [go_sem, Nat.reduceAdd, Nat.reduceEqDiff, Nat.reduceLT, reduceIte, reduceCtorEq, Nat.reduceBEq, Int.reduceLT, Int.reduceToNat, Int.reducePow, Nat.reduceLeDiff, Int.reduceLE, Nat.reduceMul, Nat.reduceSub, dec_irr]
    simp only [Done, resAV, resL, resOne, look_nil, look_cons, Nat.reduceEqDiff, if_true, if_false, reduceIte, ite_true, ite_false, Nat.zero_ne_one, Nat.one_ne_zero, reduceCtorEq, true_or, or_true, true_and, Option.some.injEq, AV.lit.injEq, Value.int.injEq, Value.bool.injEq]
    rw [if_neg]
    rw [List.any_eq_true]
    rintro ⟨r, hr, he⟩
    obtain ⟨j, hj, rfl⟩ := List.mem_iff_getElem.1 hr
    rw [hp j hj _ (List.getElem?_eq_getElem hj)] at he
    cases he
theorem contains32_pure (l : List Int) (x : Int) (hl : l.length ≤ 1000000) : Pure Tryd.prog 31 [.sl 21 (runes l) none, .lit (.int .i32 x)] [] (.lit (.bool (l.any fun (s : Int) => x == s))) := by
  refine pure0 Tryd.func31 c31 n31 e31 r31 (by simp) rfl ?_
  simp only [a31, astart, argSlots, go_sem, Nat.reduceAdd, Nat.reduceEqDiff, Nat.reduceLT, reduceIte, reduceCtorEq, Nat.reduceBEq, Int.reduceLT, Int.reduceToNat, Int.reducePow, Nat.reduceLeDiff, Int.reduceLE, Nat.reduceMul, Nat.reduceSub]
  refine callGo_pure (index32_pure l x hl) (by rfl) ?_
  simp only [go_sem, Nat.reduceAdd, Nat.reduceEqDiff, Nat.reduceLT, reduceIte, reduceCtorEq, Nat.reduceBEq, Int.reduceLT, Int.reduceToNat, Int.reducePow, Nat.reduceLeDiff, Int.reduceLE, Nat.reduceMul, Nat.reduceSub]
  simp only [Done, resAV, resL, resOne, look_nil, look_cons, Nat.reduceEqDiff, if_true, if_false, reduceIte, ite_true, ite_false, Nat.zero_ne_one, Nat.one_ne_zero, reduceCtorEq, true_or, or_true, true_and, Option.some.injEq, AV.lit.injEq, Value.int.injEq, Value.bool.injEq]
  cases h : l.any fun (s : Int) => x == s
  · simp
  · simp

end Go.Proofs.YteekelelcbfekaaDoor

/-! ## McD -/

namespace Go.Proofs.YteekelelcbfekaaDoor
open Go Go.Ab Go.ChangeShapes Go.WideShapes Go.ChangeAt Go.RowKit
/-- How many of each class: in the order in which they came. -/
def inc : List (Int × Int) → Int → List (Int × Int)
  | [], c => [(c, 1)]
  | (k, n) :: ms, c => if k = c then (k, n + 1) :: ms else (k, n) :: inc ms c
def getN : List (Int × Int) → Int → Int
  | [], _ => 0
  | (k, n) :: ms, c => if k = c then n else getN ms c
def mc (ms : List (Int × Int)) : List AV := ms.flatMap fun p => [.lit (.int .u8 p.1), .lit (.int .i64 p.2)]
theorem mc_nil : mc [] = [] := rfl
theorem mc_cons (k n : Int) (ms : List (Int × Int)) : mc ((k, n) :: ms) = .lit (.int .u8 k) :: .lit (.int .i64 n) :: mc ms := rfl
theorem mc_lkp (c : Int) : ∀ (ms : List (Int × Int)) (i : Nat), (findA (.int .u8 c) (mc ms) i).map (lkpV false (.int .i64 0)) = some (.lit (.int .i64 (getN ms c)))
  | [], i => rfl
  | (k, n) :: ms, i => by
    rw [mc_cons, findA_cons, eqKey_int]
    by_cases h : k = c
    · subst h; simp [findO, getN, lkpV]
    · have : (c == k) = false := by simpa using fun e => h e.symm
      rw [this, findO_f, mc_lkp c ms, getN, if_neg h]
theorem mc_shift (c : Int) (ms : List (Int × Int)) : ∀ (i : Nat), findA (.int .u8 c) (mc ms) i = (findA (.int .u8 c) (mc ms) 0).map (fun o => o.map (fun p => (p.1 + i, p.2))) := by
  induction ms with
  | nil => intro i; rfl
  | cons p ms ih =>
    obtain ⟨k, n⟩ := p
    intro i
    simp only [mc_cons, findA_cons, eqKey_int]
    cases hck : (c == k)
    · rw [findO_f, findO_f, ih (i + 1), ih (0 + 1), Option.map_map]
      congr 1
      funext o
      cases o
      · rfl
      · simp only [Function.comp, Option.map_some, Option.some.injEq, Prod.mk.injEq, and_true]; omega
    · simp [findO]
theorem mc_set (j : Nat) (v : AV) (a b : AV) (l : List AV) : (a :: b :: l).set (2 * (j + 1) + 1) v = a :: b :: l.set (2 * j + 1) v := by
  rw [show 2 * (j + 1) + 1 = (2 * j + 1) + 1 + 1 by omega, List.set_cons_succ, List.set_cons_succ]
theorem mc_mup (c : Int) (k0 e0 : TypeId) : ∀ (ms : List (Int × Int)), mupF k0 e0 ms.length (mc ms) (.int .u8 c) (.lit (.int .i64 (getN ms c + 1))) (findA (.int .u8 c) (mc ms) 0) = some (.ob (.map k0 e0 (inc ms c).length) (mc (inc ms c)))
  | [] => rfl
  | (k, n) :: ms => by
    have ih := mc_mup c k0 e0 ms
    by_cases h : k = c
    · subst h
      simp [mc_cons, findA_cons, eqKey_int, findO, mupF, getN, inc]
    · have h' : (c == k) = false := by simpa using fun e => h e.symm
      have hf : findA (.int .u8 c) (mc ((k, n) :: ms)) 0 = findA (.int .u8 c) (mc ms) (0 + 1) := by rw [mc_cons, findA_cons, eqKey_int, h', findO_f]
      rw [hf, mc_shift c ms (0 + 1)]
      simp only [getN, inc, if_neg h]
      cases hq : findA (.int .u8 c) (mc ms) 0 with
      | none => rw [hq] at ih; simp [mupF] at ih
      | some o =>
        rw [hq] at ih
        cases o with
        | none =>
          simp only [mupF, Option.some.injEq, AV.ob.injEq, OK.map.injEq, true_and] at ih
          simp only [Option.map_some, Option.map_none, mupF, Option.some.injEq, AV.ob.injEq, OK.map.injEq, true_and, List.length_cons, mc_cons, List.cons_append, ← ih.2, ← ih.1, and_self]
        | some p =>
          obtain ⟨j, u⟩ := p
          simp only [mupF, Option.some.injEq, AV.ob.injEq, OK.map.injEq, true_and] at ih
          simp only [Option.map_some, mupF, Option.some.injEq, AV.ob.injEq, OK.map.injEq, true_and, List.length_cons, mc_cons, ← ih.2, ← ih.1, show j + (0 + 1) = j + 1 from rfl, mc_set, and_self]

theorem mc_ren (f : Nat → Nat) (ms : List (Int × Int)) : AV.renL f (mc ms) = mc ms := by
  induction ms with
  | nil => rfl
  | cons p ms ih => obtain ⟨k, n⟩ := p; simp only [mc_cons, AV.renL, AV.ren, ih]
theorem mc_under (n : Nat) (ms : List (Int × Int)) : AV.underL n (mc ms) = true := by
  induction ms with
  | nil => rfl
  | cons p ms ih => obtain ⟨k, m⟩ := p; simp only [mc_cons, AV.underL, AV.under, ih, Bool.and_self]

theorem getN_inc (ms : List (Int × Int)) (c d : Int) : getN (inc ms c) d = if c = d then getN ms d + 1 else getN ms d := by
  induction ms with
  | nil => simp [inc, getN]
  | cons p ms ih =>
    obtain ⟨k, n⟩ := p
    by_cases h : k = c
    · subst h
      by_cases h2 : k = d <;> simp [inc, getN, h2]
    · by_cases h2 : k = d
      · subst h2
        have : ¬ c = k := fun e => h e.symm
        simp [inc, getN, h, this]
      · simp [inc, getN, h, h2, ih]
theorem keys_inc (ms : List (Int × Int)) (c : Int) : ∀ p ∈ inc ms c, p.1 = c ∨ ∃ q ∈ ms, q.1 = p.1 := by
  induction ms with
  | nil => intro p hp; simp [inc] at hp; exact .inl (by rw [hp])
  | cons q ms ih =>
    obtain ⟨k, n⟩ := q
    intro p hp
    by_cases h : k = c
    · simp only [inc, if_pos h] at hp
      rcases List.mem_cons.1 hp with rfl | hp
      · exact .inl h
      · exact .inr ⟨p, List.mem_cons_of_mem _ hp, rfl⟩
    · simp only [inc, if_neg h] at hp
      rcases List.mem_cons.1 hp with rfl | hp
      · exact .inr ⟨_, List.mem_cons_self, rfl⟩
      · rcases ih p hp with h1 | ⟨q, h1, h2⟩
        · exact .inl h1
        · exact .inr ⟨q, List.mem_cons_of_mem _ h1, h2⟩
theorem mc_get : ∀ {ms : List (Int × Int)} {i : Nat} {key : AV}, (mc ms)[2 * i]? = some key → ∃ p ∈ ms, key = .lit (.int .u8 p.1)
  | [], i, key, h => by simp [mc] at h
  | (k, n) :: ms, 0, key, h => by
    simp only [mc_cons, Nat.mul_zero, List.getElem?_cons_zero, Option.some.injEq] at h
    exact ⟨_, List.mem_cons_self, h.symm⟩
  | (k, n) :: ms, i + 1, key, h => by
    rw [mc_cons, show 2 * (i + 1) = 2 * i + 1 + 1 by omega, List.getElem?_cons_succ, List.getElem?_cons_succ] at h
    obtain ⟨p, h1, h2⟩ := mc_get h
    exact ⟨p, List.mem_cons_of_mem _ h1, h2⟩

/-- Some keys, counted. -/
def incs : List Nat → List (Int × Int) → List (Int × Int)
  | [], ms => ms
  | s :: l, ms => incs l (inc ms s)
theorem incs_append (l q : List Nat) (ms : List (Int × Int)) : incs (l ++ q) ms = incs q (incs l ms) := by
  induction l generalizing ms with
  | nil => rfl
  | cons s l ih => simp only [List.cons_append, incs]; exact ih _
theorem incs_take {l : List Nat} {i : Nat} (hi : i < l.length) (ms : List (Int × Int)) : incs (l.take (i + 1)) ms = inc (incs (l.take i) ms) (l[i] : Nat) := by
  rw [List.take_succ_eq_append_getElem hi, incs_append]; rfl
theorem getN_incs (l : List Nat) (ms : List (Int × Int)) (d : Int) : getN (incs l ms) d = getN ms d + (l.countP fun (s : Nat) => (s : Int) == d : Nat) := by
  induction l generalizing ms with
  | nil => simp [incs]
  | cons s l ih =>
    rw [incs, ih, getN_inc, List.countP_cons]
    by_cases h : (s : Int) = d <;> simp [h]; omega
theorem inc_keys (ms : List (Int × Int)) (c : Int) : (inc ms c).map (·.1) = if c ∈ ms.map (·.1) then ms.map (·.1) else ms.map (·.1) ++ [c] := by
  induction ms with
  | nil => simp [inc]
  | cons p ms ih =>
    obtain ⟨k, n⟩ := p
    by_cases h : k = c
    · subst h; simp [inc]
    · have h' : ¬ c = k := fun e => h e.symm
      simp only [inc, if_neg h, List.map_cons, ih, List.mem_cons, h', false_or]
      split <;> simp
theorem incs_nodup (l : List Nat) (ms : List (Int × Int)) (h : (ms.map (·.1)).Nodup) : ((incs l ms).map (·.1)).Nodup := by
  induction l generalizing ms with
  | nil => exact h
  | cons s l ih =>
    refine ih _ ?_
    rw [inc_keys]
    split
    · exact h
    · rename_i hn
      refine List.nodup_append.2 ⟨h, by simp, fun a ha b hb => ?_⟩
      simp only [List.mem_singleton] at hb
      subst hb
      exact fun e => hn (e ▸ ha)
theorem incs_mem (l : List Nat) (ms : List (Int × Int)) (c : Int) : c ∈ (incs l ms).map (·.1) ↔ c ∈ ms.map (·.1) ∨ ∃ s ∈ l, (s : Int) = c := by
  induction l generalizing ms with
  | nil => simp [incs]
  | cons s l ih =>
    rw [incs, ih, inc_keys]
    by_cases hm : (s : Int) ∈ ms.map (·.1)
    · rw [if_pos hm]
      constructor
      · rintro (h | ⟨x, h1, h2⟩)
        · exact .inl h
        · exact .inr ⟨x, List.mem_cons_of_mem _ h1, h2⟩
      · rintro (h | ⟨x, h1, h2⟩)
        · exact .inl h
        · rcases List.mem_cons.1 h1 with rfl | h1
          · exact .inl (h2 ▸ hm)
          · exact .inr ⟨x, h1, h2⟩
    · rw [if_neg hm]
      simp only [List.mem_append, List.mem_singleton]
      constructor
      · rintro ((h | h) | ⟨x, h1, h2⟩)
        · exact .inl h
        · exact .inr ⟨s, List.mem_cons_self, h.symm⟩
        · exact .inr ⟨x, List.mem_cons_of_mem _ h1, h2⟩
      · rintro (h | ⟨x, h1, h2⟩)
        · exact .inl (.inl h)
        · rcases List.mem_cons.1 h1 with rfl | h1
          · exact .inl (.inr h2.symm)
          · exact .inr ⟨x, h1, h2⟩
theorem incs_length (l : List Nat) (ms : List (Int × Int)) : (incs l ms).length ≤ ms.length + l.length := by
  induction l generalizing ms with
  | nil => simp [incs]
  | cons s l ih =>
    have h1 := ih (inc ms s)
    have h2 : (inc ms s).length ≤ ms.length + 1 := by
      have := congrArg List.length (inc_keys ms s)
      rw [List.length_map] at this
      rw [this]
      split <;> simp
    simp only [incs, List.length_cons]
    omega
end Go.Proofs.YteekelelcbfekaaDoor

/-! ## Saf4D -/

namespace Go.Proofs.YteekelelcbfekaaDoor
open Go Go.Ab Go.ChangeShapes Go.WideShapes Go.ChangeAt Go.RowKit
def a13 : ACode :=
  (.seq (.reg [⟨(.some 2), (.mv (.k (.bool false))), .none⟩]) (.seq (.seq (.reg [⟨(.some 6), (.mv (.t 0)), .none⟩, ⟨(.some 7), (.bin .lss (.t 6) (.k (.int .i32 128))), .none⟩, ⟨(.some 8), (.mv (.t 7)),
  .none⟩, ⟨(.some 9), (.bs 21 1 [(.k (.int .i32 8260)), (.k (.int .i32 8725)), (.k (.int .i32 12290)), (.k (.int .i32 65294)), (.k (.int .i32 65295)), (.k (.int .i32 65306)), (.k (.int .i32 65533))]),
  (.some (8, false))⟩, ⟨(.some 10), (.mv (.t 0)), (.some (8, false))⟩, ⟨(.some 11), (.call (.f 31) [(.t 9), (.t 10)]), (.some (8, false))⟩, ⟨(.some 12), (.pick (.t 8) (.k (.bool true)) (.t 11)),
  .none⟩]) (.cond (.t 12) (.seq (.reg [⟨(.some 2), (.mv (.k (.bool false))), .none⟩]) .ret) .skip)) (.seq (.reg [⟨(.some 13), (.xe .mkm []), .none⟩, ⟨.none, (.xe .mup [(.t 13), (.k (.int .u8 1)), (.k
  (.int .i64 1))]), .none⟩, ⟨.none, (.xe .mup [(.t 13), (.k (.int .u8 2)), (.k (.int .i64 1))]), .none⟩, ⟨.none, (.xe .mup [(.t 13), (.k (.int .u8 3)), (.k (.int .i64 1))]), .none⟩, ⟨.none, (.xe .mup
  [(.t 13), (.k (.int .u8 4)), (.k (.int .i64 1))]), .none⟩, ⟨.none, (.xe .mup [(.t 13), (.k (.int .u8 5)), (.k (.int .i64 1))]), .none⟩, ⟨.none, (.xe .mup [(.t 13), (.k (.int .u8 6)), (.k (.int .i64
  1))]), .none⟩, ⟨.none, (.xe .mup [(.t 13), (.k (.int .u8 7)), (.k (.int .i64 1))]), .none⟩, ⟨(.some 14), (.mv (.t 13)), .none⟩, ⟨(.some 3), (.mv (.t 14)), .none⟩]) (.seq (.reg [⟨(.some 15), (.xe .mkm
  []), .none⟩, ⟨.none, (.xe .mup [(.t 15), (.k (.int .u8 9)), (.k (.int .i64 1))]), .none⟩, ⟨.none, (.xe .mup [(.t 15), (.k (.int .u8 10)), (.k (.int .i64 1))]), .none⟩, ⟨.none, (.xe .mup [(.t 15), (.k
  (.int .u8 11)), (.k (.int .i64 1))]), .none⟩, ⟨.none, (.xe .mup [(.t 15), (.k (.int .u8 12)), (.k (.int .i64 1))]), .none⟩, ⟨.none, (.xe .mup [(.t 15), (.k (.int .u8 14)), (.k (.int .i64 1))]),
  .none⟩, ⟨.none, (.xe .mup [(.t 15), (.k (.int .u8 15)), (.k (.int .i64 1))]), .none⟩, ⟨.none, (.xe .mup [(.t 15), (.k (.int .u8 16)), (.k (.int .i64 1))]), .none⟩, ⟨.none, (.xe .mup [(.t 15), (.k
  (.int .u8 17)), (.k (.int .i64 1))]), .none⟩, ⟨.none, (.xe .mup [(.t 15), (.k (.int .u8 18)), (.k (.int .i64 1))]), .none⟩, ⟨.none, (.xe .mup [(.t 15), (.k (.int .u8 19)), (.k (.int .i64 1))]),
  .none⟩, ⟨.none, (.xe .mup [(.t 15), (.k (.int .u8 20)), (.k (.int .i64 1))]), .none⟩, ⟨.none, (.xe .mup [(.t 15), (.k (.int .u8 21)), (.k (.int .i64 1))]), .none⟩, ⟨.none, (.xe .mup [(.t 15), (.k
  (.int .u8 22)), (.k (.int .i64 1))]), .none⟩, ⟨(.some 16), (.mv (.t 15)), .none⟩, ⟨(.some 4), (.mv (.t 16)), .none⟩]) (.seq (.reg [⟨(.some 17), (.mv (.t 0)), .none⟩, ⟨(.some 18), (.call (.f 32) [(.t
  17)]), .none⟩, ⟨(.some 5), (.alc 65 [(.int .u8 0), (.int .u8 0), (.int .u8 0), (.int .u8 0), (.int .u8 0), (.int .u8 0), (.int .u8 0)]), .none⟩, ⟨.none, (.st 7 (.t 5) (.t 18)), .none⟩]) (.seq (.reg
  [⟨(.some 19), (.mv (.t 3)), .none⟩, ⟨(.some 20), (.fa 0 (.t 5)), .none⟩, ⟨(.some 21), (.ld .none (.t 20)), .none⟩, ⟨(.some 22), (.xv (.lkp false (.int .i64 0)) [(.t 19), (.t 21)]), .none⟩, ⟨(.some
  23), (.bin .eql (.t 22) (.k (.int .i64 1))), .none⟩, ⟨(.some 24), (.mv (.t 23)), .none⟩, ⟨(.some 25), (.mv (.t 4)), (.some (24, true))⟩, ⟨(.some 26), (.fa 1 (.t 5)), (.some (24, true))⟩, ⟨(.some 27),
  (.ld .none (.t 26)), (.some (24, true))⟩, ⟨(.some 28), (.xv (.lkp false (.int .i64 0)) [(.t 25), (.t 27)]), (.some (24, true))⟩, ⟨(.some 29), (.bin .eql (.t 28) (.k (.int .i64 0))), (.some (24,
  true))⟩, ⟨(.some 30), (.pick (.t 24) (.t 29) (.k (.bool false))), .none⟩, ⟨(.some 2), (.mv (.t 30)), .none⟩]) .ret))))))
theorem c13 : Tryd.f13.body.bind (cCode Tryd.prog 31) = some a13 := by kernel_rfl
theorem r13 : Tryd.f13.results.toList = [(.tmp 2)] := by kernel_rfl
theorem n13 : Tryd.f13.ntmps = 31 := by kernel_rfl
theorem e13 : Enters Tryd.prog 13 := Go.Ab.enters_of Tryd.func13 (by kernel_rfl) (by kernel_rfl)

def unsafeL : List Int := [8260, 8725, 12290, 65294, 65295, 65306, 65533]
def catsM : List (Int × Int) := [(1, 1), (2, 1), (3, 1), (4, 1), (5, 1), (6, 1), (7, 1)]
def notM : List (Int × Int) := [(9, 1), (10, 1), (11, 1), (12, 1), (14, 1), (15, 1), (16, 1), (17, 1), (18, 1), (19, 1), (20, 1), (21, 1), (22, 1)]
/-- May it be shown? -/
def safeOf (r : Int) : Bool := !(decide (r < 128) || unsafeL.any fun s => r == s) && (getN catsM (rowAt r).cat == 1 && getN notM (rowAt r).bidi == 0)

set_option maxRecDepth 10000 in
theorem safe_pure (r : Int) : Pure Tryd.prog 13 [.lit (.int .i32 r)] [] (.lit (.bool (safeOf r))) := by
  unfold safeOf
  refine pure0 Tryd.func13 c13 n13 e13 r13 (by simp) rfl ?_
  simp only [a13, astart, argSlots, go_sem, Nat.reduceAdd, Nat.reduceEqDiff, Nat.reduceLT, reduceIte, reduceCtorEq, Nat.reduceBEq, Int.reduceLT, Int.reduceToNat, Int.reducePow, Nat.reduceLeDiff, Int.reduceLE, Nat.reduceMul, Nat.reduceSub]
  by_cases h1 : r < 128
  · have a1 : decide (r < 128) = true := by simpa using h1
    simp only [a1, go_sem, Nat.reduceAdd, Nat.reduceEqDiff, Nat.reduceLT, reduceIte, reduceCtorEq, Nat.reduceBEq, Int.reduceLT, Int.reduceToNat, Int.reducePow, Nat.reduceLeDiff, Int.reduceLE, Nat.reduceMul, Nat.reduceSub]
    simp only [Done, resAV, resL, resOne, look_nil, look_cons, Nat.reduceEqDiff, if_true, if_false, reduceIte, ite_true, ite_false, Nat.zero_ne_one, Nat.one_ne_zero, reduceCtorEq, true_or, or_true, true_and, Option.some.injEq, AV.lit.injEq, Value.int.injEq, Value.bool.injEq]
    rfl
  have a1 : decide (r < 128) = false := by simpa using h1
  simp only [a1, go_sem, Nat.reduceAdd, Nat.reduceEqDiff, Nat.reduceLT, reduceIte, reduceCtorEq, Nat.reduceBEq, Int.reduceLT, Int.reduceToNat, Int.reducePow, Nat.reduceLeDiff, Int.reduceLE, Nat.reduceMul, Nat.reduceSub]
  refine callGo_pure (contains32_pure unsafeL r (by simp [unsafeL])) (by rfl) ?_
  cases a2 : unsafeL.any fun s => r == s
  · simp only [a2, go_sem, Nat.reduceAdd, Nat.reduceEqDiff, Nat.reduceLT, reduceIte, reduceCtorEq, Nat.reduceBEq, Int.reduceLT, Int.reduceToNat, Int.reducePow, Nat.reduceLeDiff, Int.reduceLE, Nat.reduceMul, Nat.reduceSub, Int.reduceBEq]
    refine callGo_pure (of_pure _) (by rfl) ?_
    have hc := mc_lkp (rowAt r).cat catsM 0
    have hn := mc_lkp (rowAt r).bidi notM 0
    generalize getN catsM (rowAt r).cat = g at hc
    generalize getN notM (rowAt r).bidi = f at hn
    simp only [catsM, mc_cons, mc_nil, findA_cons, findA_nil, eqKey_int, Nat.zero_add, Nat.reduceAdd] at hc
    simp only [notM, mc_cons, mc_nil, findA_cons, findA_nil, eqKey_int, Nat.zero_add, Nat.reduceAdd] at hn
    simp only [go_sem, Nat.reduceAdd, Nat.reduceEqDiff, Nat.reduceLT, reduceIte, reduceCtorEq, Nat.reduceBEq, Int.reduceLT, Int.reduceToNat, Int.reducePow, Nat.reduceLeDiff, Int.reduceLE, Nat.reduceMul, Nat.reduceSub, Row.prop, hc]
    cases b1 : g == 1
    · simp only [go_sem, Nat.reduceAdd, Nat.reduceEqDiff, Nat.reduceLT, reduceIte, reduceCtorEq, Nat.reduceBEq, Int.reduceLT, Int.reduceToNat, Int.reducePow, Nat.reduceLeDiff, Int.reduceLE, Nat.reduceMul, Nat.reduceSub, b1]
      simp only [Done, resAV, resL, resOne, look_nil, look_cons, Nat.reduceEqDiff, if_true, if_false, reduceIte, ite_true, ite_false, Nat.zero_ne_one, Nat.one_ne_zero, reduceCtorEq, true_or, or_true, true_and, Option.some.injEq, AV.lit.injEq, Value.int.injEq, Value.bool.injEq]
      rfl
    · simp only [go_sem, Nat.reduceAdd, Nat.reduceEqDiff, Nat.reduceLT, reduceIte, reduceCtorEq, Nat.reduceBEq, Int.reduceLT, Int.reduceToNat, Int.reducePow, Nat.reduceLeDiff, Int.reduceLE, Nat.reduceMul, Nat.reduceSub, b1, hn]
      simp only [Done, resAV, resL, resOne, look_nil, look_cons, Nat.reduceEqDiff, if_true, if_false, reduceIte, ite_true, ite_false, Nat.zero_ne_one, Nat.one_ne_zero, reduceCtorEq, true_or, or_true, true_and, Option.some.injEq, AV.lit.injEq, Value.int.injEq, Value.bool.injEq]
      rfl
  · simp only [a2, go_sem, Nat.reduceAdd, Nat.reduceEqDiff, Nat.reduceLT, reduceIte, reduceCtorEq, Nat.reduceBEq, Int.reduceLT, Int.reduceToNat, Int.reducePow, Nat.reduceLeDiff, Int.reduceLE, Nat.reduceMul, Nat.reduceSub]
    simp only [Done, resAV, resL, resOne, look_nil, look_cons, Nat.reduceEqDiff, if_true, if_false, reduceIte, ite_true, ite_false, Nat.zero_ne_one, Nat.one_ne_zero, reduceCtorEq, true_or, or_true, true_and, Option.some.injEq, AV.lit.injEq, Value.int.injEq, Value.bool.injEq]
    rfl
end Go.Proofs.YteekelelcbfekaaDoor

/-! ## Saf6D -/

namespace Go.Proofs.YteekelelcbfekaaDoor
open Go Go.Ab

/-- A text of bytes. -/
def txt (b : List Nat) : ByteArray := ⟨(b.map fun n => UInt8.ofNat n).toArray⟩
theorem txt_size (b : List Nat) : (txt b).size = b.length := by simp [txt, ByteArray.size]
theorem txt_nil : txt [] = ⟨#[]⟩ := rfl
theorem txt_get {b : List Nat} {i : Nat} (h : i < b.length) : (txt b)[i]? = some (UInt8.ofNat b[i]) := by
  rw [getElem?_pos (txt b) i (by rw [txt_size]; exact h)]
  simp [txt, ByteArray.getElem_eq_getElem_data]
theorem u8_nat {n : Nat} (h : n ≤ 255) : ((UInt8.ofNat n).toNat : Int) = (n : Int) := by simp; omega
theorem txt_slice (b : List Nat) (l u : Nat) : (txt b).extract l u = txt ((b.take u).drop l) := by
  apply ByteArray.ext
  rw [ByteArray.data_extract]
  simp only [txt, List.extract_toArray, List.extract_eq_take_drop, List.map_drop, List.map_take]
  congr 1
  rw [List.drop_take]
theorem u8_round : ∀ l : List UInt8, (l.map fun u => u.toNat).map (fun n => UInt8.ofNat n) = l
  | [] => rfl
  | u :: l => by rw [List.map_cons, List.map_cons, u8_round l, UInt8.ofNat_toNat]
theorem txt_of (s : ByteArray) : ∃ b : List Nat, s = txt b ∧ (∀ n ∈ b, n ≤ 255) ∧ b.length = s.size := by
  refine ⟨s.data.toList.map fun u => u.toNat, ?_, ?_, by rw [List.length_map]; rfl⟩
  · apply ByteArray.ext
    show s.data = _
    simp only [txt, u8_round]
  · intro n hn
    simp only [List.mem_map] at hn
    obtain ⟨u, _, rfl⟩ := hn
    have := u.toNat_lt
    omega

/-- Does a code begin a text? -/
def isC : List Nat → Bool
  | a :: x :: y :: _ => a == 37 && ((hexOf x).isSome && (hexOf y).isSome)
  | _ => false
/-- The byte of the code. -/
def codeV : List Nat → Nat
  | _ :: x :: y :: _ => 16 * (hexOf x).getD 0 + (hexOf y).getD 0
  | _ => 0
theorem isC_len {b : List Nat} (h : isC b = true) : 3 ≤ b.length := by
  match b, h with
  | a :: x :: y :: t, _ => simp
theorem isC_short {b : List Nat} (h : b.length < 3) : isC b = false := by
  cases e : isC b
  · rfl
  · have := isC_len e; omega
theorem hexOf_le (c v : Nat) (h : hexOf c = some v) : v ≤ 15 := by
  unfold hexOf at h
  (repeat' split at h) <;> simp at h <;> omega
theorem hexD_le (c : Nat) : (hexOf c).getD 0 ≤ 15 := by
  cases h : hexOf c with
  | none => simp
  | some v => exact hexOf_le c v h
theorem codeV_le (b : List Nat) : codeV b ≤ 255 := by
  unfold codeV
  split
  · rename_i x y _
    have := hexD_le x
    have := hexD_le y
    omega
  · omega

/-- What is decoded of a text. -/
def decF : Nat → List Nat → List Nat
  | 0, _ => []
  | _ + 1, [] => []
  | f + 1, a :: t => if isC (a :: t) = true then codeV (a :: t) :: decF f (t.drop 2) else a :: decF f t
def decP (b : List Nat) : List Nat := decF b.length b
theorem decF_more : ∀ (f g : Nat) (b : List Nat), b.length ≤ f → b.length ≤ g → decF f b = decF g b
  | 0, g, b, hf, hg => by
    have : b = [] := List.eq_nil_of_length_eq_zero (by omega)
    subst this
    cases g <;> rfl
  | f + 1, 0, b, hf, hg => by
    have : b = [] := List.eq_nil_of_length_eq_zero (by omega)
    subst this
    rfl
  | f + 1, g + 1, [], hf, hg => rfl
  | f + 1, g + 1, a :: t, hf, hg => by
    simp only [List.length_cons] at hf hg
    simp only [decF]
    rw [decF_more f g (t.drop 2) (by simp only [List.length_drop]; omega) (by simp only [List.length_drop]; omega), decF_more f g t (by omega) (by omega)]
theorem decP_nil : decP [] = [] := rfl
theorem decP_cons (a : Nat) (t : List Nat) : decP (a :: t) = if isC (a :: t) = true then codeV (a :: t) :: decP (t.drop 2) else a :: decP t := by
  show decF (t.length + 1) (a :: t) = _
  simp only [decF, decP]
  rw [decF_more t.length (t.drop 2).length (t.drop 2) (by simp only [List.length_drop]; omega) (Nat.le_refl _)]
theorem decP_code {b : List Nat} (h : isC b = true) : decP b = codeV b :: decP (b.drop 3) := by
  match b, h with
  | a :: x :: y :: t, h => rw [decP_cons, if_pos h]; rfl
theorem decP_plain {a : Nat} {t : List Nat} (h : isC (a :: t) = false) : decP (a :: t) = a :: decP t := by
  rw [decP_cons, if_neg (by simp [h])]
theorem decP_length (b : List Nat) : (decP b).length ≤ b.length := by
  have key : ∀ (f : Nat) (b : List Nat), b.length ≤ f → (decF f b).length ≤ b.length := by
    intro f
    induction f with
    | zero => intro b _; simp [decF]
    | succ f ih =>
      intro b h
      cases b with
      | nil => simp [decF]
      | cons a t =>
        simp only [List.length_cons] at h
        simp only [decF]
        split
        · have := ih (t.drop 2) (by simp only [List.length_drop]; omega)
          simp only [List.length_cons, List.length_drop] at this ⊢
          omega
        · have := ih t (by omega)
          simp only [List.length_cons] at this ⊢
          omega
  exact key _ _ (Nat.le_refl _)
theorem decP_le {b : List Nat} (hb : ∀ n ∈ b, n ≤ 255) : ∀ n ∈ decP b, n ≤ 255 := by
  have key : ∀ (f : Nat) (b : List Nat), (∀ n ∈ b, n ≤ 255) → ∀ n ∈ decF f b, n ≤ 255 := by
    intro f
    induction f with
    | zero => intro b _ n hn; simp [decF] at hn
    | succ f ih =>
      intro b hb n hn
      cases b with
      | nil => simp [decF] at hn
      | cons a t =>
        simp only [decF] at hn
        split at hn
        · rcases List.mem_cons.1 hn with rfl | hn
          · exact codeV_le _
          · exact ih _ (fun m hm => hb m (List.mem_cons_of_mem _ (List.mem_of_mem_drop hm))) n hn
        · rcases List.mem_cons.1 hn with rfl | hn
          · exact hb _ (by simp)
          · exact ih _ (fun m hm => hb m (List.mem_cons_of_mem _ hm)) n hn
  exact key _ _ hb

end Go.Proofs.YteekelelcbfekaaDoor

/-! ## Saf7D -/

namespace Go.Proofs.YteekelelcbfekaaDoor
open Go Go.Ab
def a21 : ACode :=
  (.seq (.reg [⟨(.some 2), (.mv (.k (.int .u8 0))), .none⟩, ⟨(.some 3), (.mv (.k (.bool false))), .none⟩]) (.seq (.seq (.reg [⟨(.some 8), (.mv (.t 0)), .none⟩, ⟨(.some 9), (.lenS (.t 8)), .none⟩,
  ⟨(.some 10), (.bin .lss (.t 9) (.k (.int .i64 3))), .none⟩, ⟨(.some 11), (.mv (.t 10)), .none⟩, ⟨(.some 12), (.mv (.t 0)), (.some (11, false))⟩, ⟨(.some 13), (.ixS (.t 12) (.k (.int .i64 0))), (.some
  (11, false))⟩, ⟨(.some 14), (.bin .neq (.t 13) (.k (.int .u8 37))), (.some (11, false))⟩, ⟨(.some 15), (.pick (.t 11) (.k (.bool true)) (.t 14)), .none⟩]) (.cond (.t 15) (.seq (.reg [⟨(.some 2), (.mv
  (.k (.int .u8 0))), .none⟩, ⟨(.some 3), (.mv (.k (.bool false))), .none⟩]) .ret) .skip)) (.seq (.reg [⟨(.some 17), (.mv (.t 0)), .none⟩, ⟨(.some 18), (.ixS (.t 17) (.k (.int .i64 1))), .none⟩, ⟨(.some
  19), (.call (.f 38) [(.t 18)]), .none⟩, ⟨(.some 16), (.mv (.t 19)), .none⟩, ⟨(.some 20), (.ext (.t 16) 0), .none⟩, ⟨(.some 21), (.ext (.t 16) 1), .none⟩, ⟨(.some 4), (.mv (.t 20)), .none⟩, ⟨(.some 5),
  (.mv (.t 21)), .none⟩]) (.seq (.reg [⟨(.some 23), (.mv (.t 0)), .none⟩, ⟨(.some 24), (.ixS (.t 23) (.k (.int .i64 2))), .none⟩, ⟨(.some 25), (.call (.f 38) [(.t 24)]), .none⟩, ⟨(.some 22), (.mv (.t
  25)), .none⟩, ⟨(.some 26), (.ext (.t 22) 0), .none⟩, ⟨(.some 27), (.ext (.t 22) 1), .none⟩, ⟨(.some 6), (.mv (.t 26)), .none⟩, ⟨(.some 7), (.mv (.t 27)), .none⟩]) (.seq (.reg [⟨(.some 28), (.mv (.t
  4)), .none⟩, ⟨(.some 29), (.bin .shl (.t 28) (.k (.int .u64 4))), .none⟩, ⟨(.some 30), (.mv (.t 6)), .none⟩, ⟨(.some 31), (.bin .or (.t 29) (.t 30)), .none⟩, ⟨(.some 32), (.cvI .u8 (.t 31)), .none⟩,
  ⟨(.some 33), (.mv (.t 5)), .none⟩, ⟨(.some 34), (.mv (.t 33)), .none⟩, ⟨(.some 35), (.mv (.t 7)), (.some (34, true))⟩, ⟨(.some 36), (.pick (.t 34) (.t 35) (.k (.bool false))), .none⟩, ⟨(.some 2), (.mv
  (.t 32)), .none⟩, ⟨(.some 3), (.mv (.t 36)), .none⟩]) .ret)))))
theorem c21 : Tryd.f21.body.bind (cCode Tryd.prog 37) = some a21 := by kernel_rfl
theorem r21 : Tryd.f21.results.toList = [(.tmp 2), (.tmp 3)] := by kernel_rfl
theorem n21 : Tryd.f21.ntmps = 37 := by kernel_rfl
theorem e21 : Enters Tryd.prog 21 := Go.Ab.enters_of Tryd.func21 (by kernel_rfl) (by kernel_rfl)
def a10 : ACode :=
  (.seq (.reg [⟨(.some 2), (.mv (.k (.slice .none 0 0))), .none⟩]) (.seq (.reg [⟨(.some 3), (.mv (.k (.slice .none 0 0))), .none⟩]) (.seq (.block 0 (.loop (.seq (.seq (.reg [⟨(.some 6), (.mv (.t 0)),
  .none⟩, ⟨(.some 7), (.bin .neq (.t 6) (.k (.string ⟨#[]⟩))), .none⟩]) (.cond (.t 7) .skip (.exit 0))) (.block 1 (.seq (.seq (.reg [⟨(.some 9), (.mv (.t 0)), .none⟩, ⟨(.some 10), (.call (.f 21) [(.t
  9)]), .none⟩, ⟨(.some 8), (.mv (.t 10)), .none⟩, ⟨(.some 11), (.ext (.t 8) 0), .none⟩, ⟨(.some 12), (.ext (.t 8) 1), .none⟩, ⟨(.some 4), (.mv (.t 11)), .none⟩, ⟨(.some 5), (.mv (.t 12)), .none⟩])
  (.seq (.reg [⟨(.some 13), (.mv (.t 5)), .none⟩]) (.cond (.t 13) (.seq (.dreg [⟨(.some 14), (.mv (.t 3)), .none⟩, ⟨(.some 15), (.mv (.t 4)), .none⟩, ⟨(.some 16), (.bs0 5 1 [(.t 15)]), .none⟩, ⟨(.some
  17), (.app 5 1 (.t 14) (.t 16)), .none⟩, ⟨(.some 18), (.mv (.t 0)), .none⟩, ⟨(.some 19), (.slS (.t 18) (.some (.k (.int .i64 3))) .none), .none⟩, ⟨(.some 3), (.mv (.t 17)), .none⟩, ⟨(.some 0), (.mv
  (.t 19)), .none⟩]) (.exit 1)) .skip))) (.dreg [⟨(.some 20), (.mv (.t 3)), .none⟩, ⟨(.some 21), (.mv (.t 0)), .none⟩, ⟨(.some 22), (.ixS (.t 21) (.k (.int .i64 0))), .none⟩, ⟨(.some 23), (.bs0 5 1 [(.t
  22)]), .none⟩, ⟨(.some 24), (.app 5 1 (.t 20) (.t 23)), .none⟩, ⟨(.some 25), (.mv (.t 0)), .none⟩, ⟨(.some 26), (.slS (.t 25) (.some (.k (.int .i64 1))) .none), .none⟩, ⟨(.some 3), (.mv (.t 24)),
  .none⟩, ⟨(.some 0), (.mv (.t 26)), .none⟩])))))) (.seq (.reg [⟨(.some 27), (.mv (.t 3)), .none⟩, ⟨(.some 2), (.mv (.t 27)), .none⟩]) .ret))))
theorem c10 : Tryd.f10.body.bind (cCode Tryd.prog 28) = some a10 := by kernel_rfl
theorem r10 : Tryd.f10.results.toList = [(.tmp 2)] := by kernel_rfl
theorem n10 : Tryd.f10.ntmps = 28 := by kernel_rfl
theorem e10 : Enters Tryd.prog 10 := Go.Ab.enters_of Tryd.func10 (by kernel_rfl) (by kernel_rfl)

theorem txt_get0 (a : Nat) (t : List Nat) : (txt (a :: t))[0]? = some (UInt8.ofNat a) := txt_get (b := a :: t) (by simp)
theorem txt_get1 (a x : Nat) (t : List Nat) : (txt (a :: x :: t))[1]? = some (UInt8.ofNat x) := txt_get (b := a :: x :: t) (by simp)
theorem txt_get2 (a x y : Nat) (t : List Nat) : (txt (a :: x :: y :: t))[2]? = some (UInt8.ofNat y) := txt_get (b := a :: x :: y :: t) (by simp)
theorem u8_int {n : Nat} (h : n ≤ 255) : (((UInt8.ofNat n).toNat : Nat) : Int) = (n : Int) := u8_nat h
theorem code_num : ∀ h < 16, ∀ l < 16, IntKind.u8.wrap (orI .i64 (IntKind.i64.wrap (((h : Nat) : Int) * 16)) ((l : Nat) : Int)) = ((16 * h + l : Nat) : Int) := by decide +kernel

def codeW (b : List Nat) : Nat := match b with
  | a :: _ :: _ :: _ => if a = 37 then codeV b else 0
  | _ => 0

set_option maxRecDepth 10000 in
theorem code_pure (b : List Nat) (hb : ∀ n ∈ b, n ≤ 255) : Pure Tryd.prog 21 [.lit (.string (txt b))] [] (.tu [.lit (.int .u8 (codeW b : Nat)), .lit (.bool (isC b))]) := by
  refine pure0 Tryd.func21 c21 n21 e21 r21 (by simp) rfl ?_
  rcases Nat.lt_or_ge b.length 3 with h3 | h3
  · have a1 : decide (((txt b).size : Int) < 3) = true := by rw [txt_size]; simp only [decide_eq_true_eq]; omega
    have e1 : isC b = false := isC_short h3
    have e2 : codeW b = 0 := by
      unfold codeW
      split
      · simp at h3; omega
      · rfl
    rw [e1, e2]
    simp only [a21, astart, argSlots, a1, go_sem, Nat.reduceAdd, Nat.reduceEqDiff, Nat.reduceLT, reduceIte, reduceCtorEq, Nat.reduceBEq, Int.reduceLT, Int.reduceToNat, Int.reducePow, Nat.reduceLeDiff, Int.reduceLE, Nat.reduceMul, Nat.reduceSub]
    simp only [Done, resAV, resL, resOne, look_nil, look_cons, Nat.reduceEqDiff, if_true, if_false, reduceIte, ite_true, ite_false, Nat.zero_ne_one, Nat.one_ne_zero, reduceCtorEq, true_or, or_true, true_and, Option.some.injEq, AV.lit.injEq, Value.int.injEq, Value.bool.injEq]
    rfl
  · match b, h3 with
    | a :: x :: y :: t, _ =>
      have ha := hb a (by simp)
      have hx := hb x (by simp)
      have hy := hb y (by simp)
      have a1 : decide (((txt (a :: x :: y :: t)).size : Int) < 3) = false := by rw [txt_size]; simp only [decide_eq_false_iff_not, List.length_cons]; omega
      simp only [a21, astart, argSlots, a1, txt_get0, u8_int ha, go_sem, Nat.reduceAdd, Nat.reduceEqDiff, Nat.reduceLT, reduceIte, reduceCtorEq, Nat.reduceBEq, Int.reduceLT, Int.reduceToNat, Int.reducePow, Nat.reduceLeDiff, Int.reduceLE, Nat.reduceMul, Nat.reduceSub]
      by_cases h37 : a = 37
      · subst h37
        have b1 : ((((37 : Nat) : Int)) != 37) = false := rfl
        simp only [b1, txt_get1, txt_get2, u8_int hx, u8_int hy, go_sem, Nat.reduceAdd, Nat.reduceEqDiff, Nat.reduceLT, reduceIte, reduceCtorEq, Nat.reduceBEq, Int.reduceLT, Int.reduceToNat, Int.reducePow, Nat.reduceLeDiff, Int.reduceLE, Nat.reduceMul, Nat.reduceSub, bne_self_eq_false]
        refine callGo_pure (digit_pure x hx) (by rfl) ?_
        simp only [digA, txt_get1, txt_get2, u8_int hx, u8_int hy, go_sem, Nat.reduceAdd, Nat.reduceEqDiff, Nat.reduceLT, reduceIte, reduceCtorEq, Nat.reduceBEq, Int.reduceLT, Int.reduceToNat, Int.reducePow, Nat.reduceLeDiff, Int.reduceLE, Nat.reduceMul, Nat.reduceSub]
        refine callGo_pure (digit_pure y hy) (by rfl) ?_
        have hw : codeW (37 :: x :: y :: t) = 16 * (hexOf x).getD 0 + (hexOf y).getD 0 := rfl
        have hi : isC (37 :: x :: y :: t) = ((hexOf x).isSome && (hexOf y).isSome) := rfl
        have hn := code_num ((hexOf x).getD 0) (by have := hexD_le x; omega) ((hexOf y).getD 0) (by have := hexD_le y; omega)
        rw [hw, hi]
        cases (hexOf x).isSome
        · simp only [digA, hn, go_sem, Nat.reduceAdd, Nat.reduceEqDiff, Nat.reduceLT, reduceIte, reduceCtorEq, Nat.reduceBEq, Int.reduceLT, Int.reduceToNat, Int.reducePow, Nat.reduceLeDiff, Int.reduceLE, Nat.reduceMul, Nat.reduceSub]
          simp only [Done, resAV, resL, resOne, look_nil, look_cons, Nat.reduceEqDiff, if_true, if_false, reduceIte, ite_true, ite_false, Nat.zero_ne_one, Nat.one_ne_zero, reduceCtorEq, true_or, or_true, true_and, Option.some.injEq, AV.lit.injEq, Value.int.injEq, Value.bool.injEq]
          simp only [Bool.false_and]
        · simp only [digA, hn, go_sem, Nat.reduceAdd, Nat.reduceEqDiff, Nat.reduceLT, reduceIte, reduceCtorEq, Nat.reduceBEq, Int.reduceLT, Int.reduceToNat, Int.reducePow, Nat.reduceLeDiff, Int.reduceLE, Nat.reduceMul, Nat.reduceSub]
          simp only [Done, resAV, resL, resOne, look_nil, look_cons, Nat.reduceEqDiff, if_true, if_false, reduceIte, ite_true, ite_false, Nat.zero_ne_one, Nat.one_ne_zero, reduceCtorEq, true_or, or_true, true_and, Option.some.injEq, AV.lit.injEq, Value.int.injEq, Value.bool.injEq]
          try simp only [Bool.true_and]
      · have b1 : ((a : Int) != 37) = true := by simp only [bne_iff_ne, ne_eq]; omega
        have hw : codeW (a :: x :: y :: t) = 0 := by simp [codeW, h37]
        have hi : isC (a :: x :: y :: t) = false := by simp [isC, h37]
        rw [hw, hi]
        simp only [b1, go_sem, Nat.reduceAdd, Nat.reduceEqDiff, Nat.reduceLT, reduceIte, reduceCtorEq, Nat.reduceBEq, Int.reduceLT, Int.reduceToNat, Int.reducePow, Nat.reduceLeDiff, Int.reduceLE, Nat.reduceMul, Nat.reduceSub]
        simp only [Done, resAV, resL, resOne, look_nil, look_cons, Nat.reduceEqDiff, if_true, if_false, reduceIte, ite_true, ite_false, Nat.zero_ne_one, Nat.one_ne_zero, reduceCtorEq, true_or, or_true, true_and, Option.some.injEq, AV.lit.injEq, Value.int.injEq, Value.bool.injEq]
        rfl

theorem codeW_of {b : List Nat} (h : isC b = true) : codeW b = codeV b := by
  match b, h with
  | a :: x :: y :: t, h =>
    have : a = 37 := by simp only [isC, Bool.and_eq_true, beq_iff_eq] at h; exact h.1
    simp [codeW, this, codeV]

theorem txt_ne {b : List Nat} : ((txt b).toList == (⟨#[]⟩ : ByteArray).toList) = decide (b = []) := by
  rw [txt, ByteArray.toList_mk, ByteArray.toList_mk]
  cases b with
  | nil => rfl
  | cons a t => simp

/-- The length of the text in a slot. -/
def lenAt (t : Nat) (s : State) : Nat := match Ab.look s.slots t with
  | some (.lit (.string b)) => b.size
  | _ => 0

theorem slc_tail {b : List Nat} {k : Nat} (h : k ≤ b.length) : (if k ≤ b.length ∧ b.length ≤ b.length then some (k, b.length) else none : Option (Nat × Nat)) = some (k, b.length) := by rw [if_pos ⟨h, Nat.le_refl _⟩]
theorem txt_tail1 (a : Nat) (t : List Nat) : (txt (a :: t)).extract 1 (t.length + 1) = txt t := by
  have := txt_slice (a :: t) 1 (t.length + 1)
  rw [this, List.take_of_length_le (by simp)]; rfl
theorem txt_tail3 (a : Nat) (t : List Nat) : (txt (a :: t)).extract 3 (t.length + 1) = txt (t.drop 2) := by
  have := txt_slice (a :: t) 3 (t.length + 1)
  rw [this, List.take_of_length_le (by simp)]; rfl
theorem txt_tail (b : List Nat) (k : Nat) : (txt b).extract k b.length = txt (b.drop k) := by rw [txt_slice, List.take_length]

set_option maxRecDepth 10000 in
theorem pctDecode_pure (b : List Nat) (hb : ∀ n ∈ b, n ≤ 255) (hl : b.length ≤ 1099511627776) : Pure Tryd.prog 10 [.lit (.string (txt b))] [5] (.sl 5 (octs (decP b)) (some 0)) := by
  refine pure1 Tryd.func10 c10 n10 e10 r10 (by simp) ?_
  simp only [a10, astart, argSlots, go_sem, Nat.reduceAdd, Nat.reduceEqDiff, Nat.reduceLT, reduceIte, reduceCtorEq, Nat.reduceBEq, Int.reduceLT, Int.reduceToNat, Int.reducePow, Nat.reduceLeDiff, Int.reduceLE, Nat.reduceMul, Nat.reduceSub]
  refine loop_by (α := List Nat × List Nat) (fun x => ⟨[(0, some (.lit (.string (txt x.2)))), (3, some (.sl 5 (octs x.1) (some 0)))], [], [(0, 5)], 1⟩)
    (fun x => (∀ n ∈ x.2, n ≤ 255) ∧ x.1.length + x.2.length ≤ b.length ∧ decP b = x.1 ++ decP x.2) (fun x => x.2.length) (fun x y h => by
      have := congrArg (lenAt 0) h
      simpa [lenAt, Ab.look, txt_size] using this) ([], b) ((weak_nil 3 5 (by simp only [go_sem, Nat.reduceAdd, Nat.reduceEqDiff, Nat.reduceLT, reduceIte, reduceCtorEq, Nat.reduceBEq, Int.reduceLT, Int.reduceToNat, Int.reducePow, Nat.reduceLeDiff, Int.reduceLE, Nat.reduceMul, Nat.reduceSub])).trans (weak_by [0] (by simp) rfl ?_ trivial ?_ (by simp))) ⟨hb, by simp, rfl⟩ ?_
  · simp only [go_sem, Nat.reduceAdd, Nat.reduceEqDiff, Nat.reduceLT, reduceIte, reduceCtorEq, Nat.reduceBEq, Int.reduceLT, Int.reduceToNat, Int.reducePow, Nat.reduceLeDiff, Int.reduceLE, Nat.reduceMul, Nat.reduceSub, slotsBy, boxesBy, tipsBy, rawAt, nm, AV.ren, AV.renL, AV.under, AV.underL, List.all_nil, List.all_cons, bne_self_eq_false, List.getD_cons_zero, List.getD_cons_succ, List.length_nil, List.length_cons, and_true, true_and, octs, List.map_nil]
  · simp only [go_sem, Nat.reduceAdd, Nat.reduceEqDiff, Nat.reduceLT, reduceIte, reduceCtorEq, Nat.reduceBEq, Int.reduceLT, Int.reduceToNat, Int.reducePow, Nat.reduceLeDiff, Int.reduceLE, Nat.reduceMul, Nat.reduceSub, slotsBy, boxesBy, tipsBy, rawAt, nm, AV.ren, AV.renL, AV.under, AV.underL, List.all_nil, List.all_cons, bne_self_eq_false, List.getD_cons_zero, List.getD_cons_succ, List.length_nil, List.length_cons, and_true, true_and, beq_self_eq_true]
  · rintro ⟨acc, r⟩ ⟨hr, hlen, hdec⟩
    simp only at hr hlen hdec
    simp only [go_sem, Nat.reduceAdd, Nat.reduceEqDiff, Nat.reduceLT, reduceIte, reduceCtorEq, Nat.reduceBEq, Int.reduceLT, Int.reduceToNat, Int.reducePow, Nat.reduceLeDiff, Int.reduceLE, Nat.reduceMul, Nat.reduceSub]
    cases r with
    | nil =>
      simp only [binStr, txt_ne, decide_true, Bool.not_true, go_sem, Nat.reduceAdd, Nat.reduceEqDiff, Nat.reduceLT, reduceIte, reduceCtorEq, Nat.reduceBEq, Int.reduceLT, Int.reduceToNat, Int.reducePow, Nat.reduceLeDiff, Int.reduceLE, Nat.reduceMul, Nat.reduceSub]
      rw [decP_nil, List.append_nil] at hdec
      rw [hdec]
      exact ⟨.inr rfl, 0, by simp only [resAV, resL, resOne, go_sem, Nat.reduceAdd, Nat.reduceEqDiff, Nat.reduceLT, reduceIte, reduceCtorEq, Nat.reduceBEq, Int.reduceLT, Int.reduceToNat, Int.reducePow, Nat.reduceLeDiff, Int.reduceLE, Nat.reduceMul, Nat.reduceSub], by simp [go_sem, Nat.reduceAdd, Nat.reduceEqDiff, Nat.reduceLT, reduceIte, reduceCtorEq, Nat.reduceBEq, Int.reduceLT, Int.reduceToNat, Int.reducePow, Nat.reduceLeDiff, Int.reduceLE, Nat.reduceMul, Nat.reduceSub]⟩
    | cons a t =>
      have hd : decide (a :: t = []) = false := by simp
      have ha := hr a (by simp)
      simp only [List.length_cons] at hlen
      simp only [binStr, txt_ne, hd, Bool.not_false, go_sem, Nat.reduceAdd, Nat.reduceEqDiff, Nat.reduceLT, reduceIte, reduceCtorEq, Nat.reduceBEq, Int.reduceLT, Int.reduceToNat, Int.reducePow, Nat.reduceLeDiff, Int.reduceLE, Nat.reduceMul, Nat.reduceSub]
      refine callGo_pure (code_pure _ hr) (by rfl) ?_
      simp only [go_sem, Nat.reduceAdd, Nat.reduceEqDiff, Nat.reduceLT, reduceIte, reduceCtorEq, Nat.reduceBEq, Int.reduceLT, Int.reduceToNat, Int.reducePow, Nat.reduceLeDiff, Int.reduceLE, Nat.reduceMul, Nat.reduceSub]
      cases hi : isC (a :: t)
      · rw [decP_plain hi] at hdec
        simp only [txt_get0, u8_int ha, txt_size, slc_tail (show 1 ≤ (a :: t).length by simp), txt_tail1, Nat.le_refl, go_sem, Nat.reduceAdd, Nat.reduceEqDiff, Nat.reduceLT, reduceIte, reduceCtorEq, Nat.reduceBEq, Int.reduceLT, Int.reduceToNat, Int.reducePow, Nat.reduceLeDiff, Int.reduceLE, Nat.reduceMul, Nat.reduceSub]
        refine ⟨⟨by omega, by omega⟩, (acc ++ [a], t), weak_by [1] (by simp) rfl ?_ trivial ?_ (by simp), ⟨fun n hn => hr n (List.mem_cons_of_mem _ hn), by simp only [List.length_append, List.length_cons, List.length_nil]; omega, by rw [hdec]; simp⟩, by simp⟩
        · simp only [go_sem, Nat.reduceAdd, Nat.reduceEqDiff, Nat.reduceLT, reduceIte, reduceCtorEq, Nat.reduceBEq, Int.reduceLT, Int.reduceToNat, Int.reducePow, Nat.reduceLeDiff, Int.reduceLE, Nat.reduceMul, Nat.reduceSub, slotsBy, boxesBy, tipsBy, rawAt, nm, AV.ren, AV.renL, AV.under, AV.underL, List.all_nil, List.all_cons, bne_self_eq_false, List.getD_cons_zero, List.getD_cons_succ, List.length_nil, List.length_cons, and_true, true_and, octs_append]
          simp [octs]
        · simp only [go_sem, Nat.reduceAdd, Nat.reduceEqDiff, Nat.reduceLT, reduceIte, reduceCtorEq, Nat.reduceBEq, Int.reduceLT, Int.reduceToNat, Int.reducePow, Nat.reduceLeDiff, Int.reduceLE, Nat.reduceMul, Nat.reduceSub, slotsBy, boxesBy, tipsBy, rawAt, nm, AV.ren, AV.renL, AV.under, AV.underL, List.all_nil, List.all_cons, bne_self_eq_false, List.getD_cons_zero, List.getD_cons_succ, List.length_nil, List.length_cons, and_true, true_and, beq_self_eq_true]
      · rw [decP_code hi] at hdec
        have h3 := isC_len hi
        have h2 : 2 ≤ t.length := by simpa using h3
        simp only [codeW_of hi, txt_size, h2, txt_tail3, Nat.le_refl, and_self, go_sem, Nat.reduceAdd, Nat.reduceEqDiff, Nat.reduceLT, reduceIte, reduceCtorEq, Nat.reduceBEq, Int.reduceLT, Int.reduceToNat, Int.reducePow, Nat.reduceLeDiff, Int.reduceLE, Nat.reduceMul, Nat.reduceSub]
        have hd3 : (a :: t).drop 3 = t.drop 2 := rfl
        rw [hd3] at hdec
        refine ⟨⟨by omega, by omega⟩, (acc ++ [codeV (a :: t)], t.drop 2), weak_by [1] (by simp) rfl ?_ trivial ?_ (by simp), ⟨fun n hn => hr n (List.mem_cons_of_mem _ (List.mem_of_mem_drop hn)), by simp only [List.length_append, List.length_cons, List.length_nil, List.length_drop]; omega, by rw [hdec]; simp⟩, by simp only [List.length_drop, List.length_cons]; omega⟩
        · simp only [go_sem, Nat.reduceAdd, Nat.reduceEqDiff, Nat.reduceLT, reduceIte, reduceCtorEq, Nat.reduceBEq, Int.reduceLT, Int.reduceToNat, Int.reducePow, Nat.reduceLeDiff, Int.reduceLE, Nat.reduceMul, Nat.reduceSub, slotsBy, boxesBy, tipsBy, rawAt, nm, AV.ren, AV.renL, AV.under, AV.underL, List.all_nil, List.all_cons, bne_self_eq_false, List.getD_cons_zero, List.getD_cons_succ, List.length_nil, List.length_cons, and_true, true_and, octs_append]
          simp [octs]
        · simp only [go_sem, Nat.reduceAdd, Nat.reduceEqDiff, Nat.reduceLT, reduceIte, reduceCtorEq, Nat.reduceBEq, Int.reduceLT, Int.reduceToNat, Int.reducePow, Nat.reduceLeDiff, Int.reduceLE, Nat.reduceMul, Nat.reduceSub, slotsBy, boxesBy, tipsBy, rawAt, nm, AV.ren, AV.renL, AV.under, AV.underL, List.all_nil, List.all_cons, bne_self_eq_false, List.getD_cons_zero, List.getD_cons_succ, List.length_nil, List.length_cons, and_true, true_and, beq_self_eq_true]
end Go.Proofs.YteekelelcbfekaaDoor

/-! ## Saf9D -/

namespace Go.Proofs.YteekelelcbfekaaDoor
open Go Go.Ab
def a53 : ACode :=
  (.seq (.reg [⟨(.some 2), (.mv (.k (.int .i64 0))), .none⟩]) (.seq (.reg [⟨(.some 3), (.mv (.k (.int .i64 0))), .none⟩]) (.seq (.block 0 (.loop (.seq (.seq (.reg [⟨(.some 8), (.mv (.t 0)), .none⟩,
  ⟨(.some 9), (.lenS (.t 8)), .none⟩, ⟨(.some 10), (.bin .geq (.t 9) (.k (.int .i64 3))), .none⟩, ⟨(.some 11), (.mv (.t 10)), .none⟩, ⟨(.some 12), (.mv (.t 0)), (.some (11, true))⟩, ⟨(.some 13), (.ixS
  (.t 12) (.k (.int .i64 0))), (.some (11, true))⟩, ⟨(.some 14), (.bin .eql (.t 13) (.k (.int .u8 37))), (.some (11, true))⟩, ⟨(.some 15), (.pick (.t 11) (.t 14) (.k (.bool false))), .none⟩]) (.cond (.t
  15) .skip (.exit 0))) (.block 1 (.seq (.reg [⟨(.some 17), (.mv (.t 0)), .none⟩, ⟨(.some 18), (.ixS (.t 17) (.k (.int .i64 1))), .none⟩, ⟨(.some 19), (.call (.f 38) [(.t 18)]), .none⟩, ⟨(.some 16),
  (.mv (.t 19)), .none⟩, ⟨(.some 20), (.ext (.t 16) 0), .none⟩, ⟨(.some 21), (.ext (.t 16) 1), .none⟩, ⟨(.some 4), (.mv (.t 20)), .none⟩, ⟨(.some 5), (.mv (.t 21)), .none⟩]) (.seq (.reg [⟨(.some 23),
  (.mv (.t 0)), .none⟩, ⟨(.some 24), (.ixS (.t 23) (.k (.int .i64 2))), .none⟩, ⟨(.some 25), (.call (.f 38) [(.t 24)]), .none⟩, ⟨(.some 22), (.mv (.t 25)), .none⟩, ⟨(.some 26), (.ext (.t 22) 0), .none⟩,
  ⟨(.some 27), (.ext (.t 22) 1), .none⟩, ⟨(.some 6), (.mv (.t 26)), .none⟩, ⟨(.some 7), (.mv (.t 27)), .none⟩]) (.seq (.seq (.reg [⟨(.some 28), (.mv (.t 5)), .none⟩, ⟨(.some 29), (.not (.t 28)), .none⟩,
  ⟨(.some 30), (.mv (.t 29)), .none⟩, ⟨(.some 31), (.mv (.t 7)), (.some (30, false))⟩, ⟨(.some 32), (.not (.t 31)), (.some (30, false))⟩, ⟨(.some 33), (.pick (.t 30) (.k (.bool true)) (.t 32)), .none⟩])
  (.cond (.t 33) (.exit 0) .skip)) (.dreg [⟨(.some 34), (.mv (.t 3)), .none⟩, ⟨(.some 35), (.bin .add (.t 34) (.k (.int .i64 1))), .none⟩, ⟨(.some 36), (.mv (.t 0)), .none⟩, ⟨(.some 37), (.slS (.t 36)
  (.some (.k (.int .i64 3))) .none), .none⟩, ⟨(.some 3), (.mv (.t 35)), .none⟩, ⟨(.some 0), (.mv (.t 37)), .none⟩])))))))) (.seq (.reg [⟨(.some 38), (.mv (.t 3)), .none⟩, ⟨(.some 2), (.mv (.t 38)),
  .none⟩]) .ret))))
theorem c53 : Tryd.f53.body.bind (cCode Tryd.prog 39) = some a53 := by kernel_rfl
theorem r53 : Tryd.f53.results.toList = [(.tmp 2)] := by kernel_rfl
theorem n53 : Tryd.f53.ntmps = 39 := by kernel_rfl
theorem e53 : Enters Tryd.prog 53 := Go.Ab.enters_of Tryd.func53 (by kernel_rfl) (by kernel_rfl)

/-- How many codes a text begins with. -/
def rowF : Nat → List Nat → Nat
  | 0, _ => 0
  | f + 1, b => if isC b = true then 1 + rowF f (b.drop 3) else 0
def rowN (b : List Nat) : Nat := rowF b.length b
theorem rowF_more : ∀ (f g : Nat) (b : List Nat), b.length ≤ f → b.length ≤ g → rowF f b = rowF g b
  | 0, 0, b, _, _ => rfl
  | 0, g + 1, b, hf, _ => by
    have : b = [] := List.eq_nil_of_length_eq_zero (by omega)
    subst this; rfl
  | f + 1, 0, b, _, hg => by
    have : b = [] := List.eq_nil_of_length_eq_zero (by omega)
    subst this; rfl
  | f + 1, g + 1, b, hf, hg => by
    simp only [rowF]
    split
    · have := isC_len ‹_›
      rw [rowF_more f g (b.drop 3) (by simp only [List.length_drop]; omega) (by simp only [List.length_drop]; omega)]
    · rfl
theorem rowN_code {b : List Nat} (h : isC b = true) : rowN b = 1 + rowN (b.drop 3) := by
  have h3 := isC_len h
  obtain ⟨k, hk⟩ : ∃ k, b.length = k + 1 := ⟨b.length - 1, by omega⟩
  show rowF b.length b = _
  rw [hk]
  simp only [rowF, h, if_true, rowN]
  rw [rowF_more k (b.drop 3).length (b.drop 3) (by simp only [List.length_drop]; omega) (Nat.le_refl _)]
theorem rowN_plain {b : List Nat} (h : isC b = false) : rowN b = 0 := by
  show rowF b.length b = _
  cases b.length with
  | zero => rfl
  | succ k => simp [rowF, h]
theorem rowN_le (b : List Nat) : 3 * rowN b ≤ b.length := by
  have key : ∀ (f : Nat) (b : List Nat), b.length ≤ f → 3 * rowN b ≤ b.length := by
    intro f
    induction f with
    | zero => intro b h; have : b = [] := List.eq_nil_of_length_eq_zero (by omega)
              subst this; simp [rowN, rowF]
    | succ f ih =>
      intro b h
      cases hc : isC b
      · rw [rowN_plain hc]; omega
      · have h3 := isC_len hc
        have := ih (b.drop 3) (by simp only [List.length_drop]; omega)
        rw [rowN_code hc]
        simp only [List.length_drop] at this
        omega
  exact key _ _ (Nat.le_refl _)
theorem rowN_pos {b : List Nat} : 0 < rowN b ↔ isC b = true := by
  cases hc : isC b
  · rw [rowN_plain hc]; simp
  · rw [rowN_code hc]; simp only [iff_true]; omega

/-- A row is decoded to a byte for each code. -/
theorem isC_take {b : List Nat} {n : Nat} (h : 3 ≤ n) : isC (b.take n) = isC b := by
  match b, n, h with
  | [], n, _ => simp
  | [a], n + 3, _ => simp
  | [a, x], n + 3, _ => simp
  | a :: x :: y :: t, n + 3, _ => simp [isC]
theorem dec_row (b : List Nat) : (decP (b.take (3 * rowN b))).length = rowN b := by
  have key : ∀ (f : Nat) (b : List Nat), b.length ≤ f → (decP (b.take (3 * rowN b))).length = rowN b := by
    intro f
    induction f with
    | zero => intro b h; have : b = [] := List.eq_nil_of_length_eq_zero (by omega)
              subst this; simp [rowN, rowF, decP, decF]
    | succ f ih =>
      intro b h
      cases hc : isC b
      · rw [rowN_plain hc]; simp [decP, decF]
      · have h3 := isC_len hc
        have := ih (b.drop 3) (by simp only [List.length_drop]; omega)
        rw [rowN_code hc, decP_code (by rw [isC_take (by omega)]; exact hc), List.length_cons, List.drop_take]
        have e : 3 * (1 + rowN (b.drop 3)) - 3 = 3 * rowN (b.drop 3) := by omega
        rw [e, this]; omega
  exact key _ _ (Nat.le_refl _)

abbrev T3 := Nat × Nat × Nat
/-- A byte by itself. -/
def oneT (at_ c : Nat) : T3 := (if 127 < c then 65533 else c, at_, at_ + 1)
def eachT : Nat → List Nat → List T3
  | _, [] => []
  | at_, c :: t => oneT at_ c :: eachT (at_ + 1) t
theorem eachT_length : ∀ (at_ : Nat) (b : List Nat), (eachT at_ b).length = b.length
  | _, [] => rfl
  | at_, c :: t => by simp [eachT, eachT_length (at_ + 1) t]
theorem eachT_append : ∀ (at_ : Nat) (a b : List Nat), eachT at_ (a ++ b) = eachT at_ a ++ eachT (at_ + a.length) b
  | at_, [], b => by simp [eachT]
  | at_, c :: t, b => by
    have e : at_ + 1 + t.length = at_ + (c :: t).length := by simp only [List.length_cons]; omega
    simp only [List.cons_append, eachT, eachT_append (at_ + 1) t b, e]
theorem eachT_take {b : List Nat} {i : Nat} (h : i < b.length) (at_ : Nat) : eachT at_ (b.take (i + 1)) = eachT at_ (b.take i) ++ [oneT (at_ + i) b[i]] := by
  rw [List.take_succ_eq_append_getElem h, eachT_append, List.length_take, Nat.min_eq_left (by omega)]
  rfl
/-- What a code of a row is shown as. -/
def sayT (b : List Nat) (at_ : Nat) (x : Nat × Nat × Nat × Bool) : List T3 :=
  if safeOf (x.1 : Int) = true then [(x.1, at_ + 3 * x.2.1, at_ + 3 * x.2.2.1)] else eachT (at_ + 3 * x.2.1) ((b.take (3 * x.2.2.1)).drop (3 * x.2.1))
def saidT (at_ : Nat) (b : List Nat) : List T3 := (cut 0 (decP b)).flatMap (sayT b at_)
/-- What a text is shown as. -/
def showF : Nat → Nat → List Nat → List T3
  | 0, _, _ => []
  | _ + 1, _, [] => []
  | f + 1, at_, c :: t => if isC (c :: t) = true then saidT at_ ((c :: t).take (3 * rowN (c :: t))) ++ showF f (at_ + 3 * rowN (c :: t)) ((c :: t).drop (3 * rowN (c :: t))) else oneT at_ c :: showF f (at_ + 1) t
def showT (at_ : Nat) (b : List Nat) : List T3 := showF b.length at_ b
theorem showF_more : ∀ (f g at_ : Nat) (b : List Nat), b.length ≤ f → b.length ≤ g → showF f at_ b = showF g at_ b
  | 0, g, at_, b, hf, hg => by
    have : b = [] := List.eq_nil_of_length_eq_zero (by omega)
    subst this
    cases g <;> rfl
  | f + 1, 0, at_, b, hf, hg => by
    have : b = [] := List.eq_nil_of_length_eq_zero (by omega)
    subst this
    rfl
  | f + 1, g + 1, at_, [], hf, hg => rfl
  | f + 1, g + 1, at_, c :: t, hf, hg => by
    simp only [List.length_cons] at hf hg
    simp only [showF]
    rw [showF_more f g _ t (by omega) (by omega)]
    split
    · have := rowN_pos.2 ‹_›
      rw [showF_more f g _ _ (by simp only [List.length_drop, List.length_cons]; omega) (by simp only [List.length_drop, List.length_cons]; omega)]
    · rfl
theorem showT_nil (at_ : Nat) : showT at_ [] = [] := rfl
theorem showT_row {b : List Nat} (h : isC b = true) (at_ : Nat) : showT at_ b = saidT at_ (b.take (3 * rowN b)) ++ showT (at_ + 3 * rowN b) (b.drop (3 * rowN b)) := by
  have hp := rowN_pos.2 h
  match b, h with
  | c :: t, h =>
    show showF (t.length + 1) at_ (c :: t) = _
    simp only [showF, h, if_true, showT]
    rw [showF_more t.length ((c :: t).drop (3 * rowN (c :: t))).length _ _ (by simp only [List.length_drop, List.length_cons]; omega) (Nat.le_refl _)]
theorem showT_one {c : Nat} {t : List Nat} (h : isC (c :: t) = false) (at_ : Nat) : showT at_ (c :: t) = oneT at_ c :: showT (at_ + 1) t := by
  show showF (t.length + 1) at_ (c :: t) = _
  simp only [showF, h, Bool.false_eq_true, if_false, showT]

/-! ### How long -/

theorem sayT_len (b : List Nat) (at_ : Nat) (x : Nat × Nat × Nat × Bool) (h : x.2.1 < x.2.2.1) : (sayT b at_ x).length ≤ 3 * (x.2.2.1 - x.2.1) := by
  unfold sayT
  split
  · simp; omega
  · rw [eachT_length, List.length_drop, List.length_take]; omega
theorem cut_say_len (b : List Nat) (at_ : Nat) : ∀ (f k : Nat) (q : List Nat), q.length ≤ f → ((cutF f k q).flatMap (sayT b at_)).length ≤ 3 * q.length
  | 0, k, q, _ => by simp [cutF]
  | f + 1, k, [], _ => by simp [cutF]
  | f + 1, k, c :: t, h => by
    have hn := nx_len c t
    have := cut_say_len b at_ f (k + (nx (c :: t)).2.1) ((c :: t).drop (nx (c :: t)).2.1) (by simp only [List.length_drop, List.length_cons] at h ⊢; omega)
    have h1 := sayT_len b at_ ((nx (c :: t)).1, k, k + (nx (c :: t)).2.1, (nx (c :: t)).2.2) (by simp only; omega)
    simp only [cutF, List.flatMap_cons, List.length_append, List.length_drop] at this h1 ⊢
    omega
theorem saidT_len (at_ : Nat) (b : List Nat) : (saidT at_ b).length ≤ 3 * (decP b).length := cut_say_len b at_ _ 0 _ (Nat.le_refl _)
theorem said_row_len (at_ : Nat) (b : List Nat) : (saidT at_ (b.take (3 * rowN b))).length ≤ 3 * rowN b := by
  have := saidT_len at_ (b.take (3 * rowN b))
  rw [dec_row] at this
  exact this
theorem say_prefix (b : List Nat) (at_ k : Nat) (l : List (Nat × Nat × Nat × Bool)) : ((l.take k).flatMap (sayT b at_)).length ≤ (l.flatMap (sayT b at_)).length := by
  have : l.flatMap (sayT b at_) = (l.take k).flatMap (sayT b at_) ++ (l.drop k).flatMap (sayT b at_) := by rw [← List.flatMap_append, List.take_append_drop]
  rw [this, List.length_append]; omega

/-- The codes of bytes lie within them. -/
theorem cut_in : ∀ (f k : Nat) (q : List Nat), q.length ≤ f → ∀ x ∈ cutF f k q, k ≤ x.2.1 ∧ x.2.1 < x.2.2.1 ∧ x.2.2.1 ≤ k + q.length
  | 0, k, q, _ => by simp [cutF]
  | f + 1, k, [], _ => by simp [cutF]
  | f + 1, k, c :: t, h => by
    have hn := nx_len c t
    have ih := cut_in f (k + (nx (c :: t)).2.1) ((c :: t).drop (nx (c :: t)).2.1) (by simp only [List.length_drop, List.length_cons] at h ⊢; omega)
    intro x hx
    simp only [cutF, List.mem_cons] at hx
    rcases hx with rfl | hx
    · simp only; omega
    · have := ih x hx
      simp only [List.length_drop] at this
      omega
theorem cut_mem {q : List Nat} {x : Nat × Nat × Nat × Bool} (h : x ∈ cut 0 q) : x.2.1 < x.2.2.1 ∧ x.2.2.1 ≤ q.length := by
  have := cut_in _ 0 q (Nat.le_refl _) x h
  omega

set_option maxRecDepth 10000 in
theorem row_pure (b : List Nat) (hb : ∀ n ∈ b, n ≤ 255) (hl : b.length ≤ 1099511627776) : Pure Tryd.prog 53 [.lit (.string (txt b))] [] (.lit (.int .i64 (rowN b : Nat))) := by
  refine pure0 Tryd.func53 c53 n53 e53 r53 (by simp) rfl ?_
  simp only [a53, astart, argSlots, go_sem, Nat.reduceAdd, Nat.reduceEqDiff, Nat.reduceLT, reduceIte, reduceCtorEq, Nat.reduceBEq, Int.reduceLT, Int.reduceToNat, Int.reducePow, Nat.reduceLeDiff, Int.reduceLE, Nat.reduceMul, Nat.reduceSub]
  refine loop_by (α := Nat) (fun k => ⟨[(0, some (.lit (.string (txt (b.drop (3 * k)))))), (3, some (.lit (.int .i64 ((k : Nat) : Int))))], [], [], 0⟩)
    (fun k => 3 * k ≤ b.length ∧ rowN b = k + rowN (b.drop (3 * k))) (fun k => b.length - 3 * k) (fun x y h => by
      have := congrArg (cnt 3) h
      simp [cnt, Ab.look] at this
      rw [this]) 0 (weak_by [] List.nodup_nil rfl ?_ trivial trivial (by simp)) ⟨by simp, by simp⟩ ?_
  · simp only [go_sem, Nat.reduceAdd, Nat.reduceEqDiff, Nat.reduceLT, reduceIte, reduceCtorEq, Nat.reduceBEq, Int.reduceLT, Int.reduceToNat, Int.reducePow, Nat.reduceLeDiff, Int.reduceLE, Nat.reduceMul, Nat.reduceSub, slotsBy, boxesBy, tipsBy, rawAt, nm, AV.ren, AV.renL, AV.under, AV.underL, List.all_nil, List.all_cons, bne_self_eq_false, List.getD_cons_zero, List.getD_cons_succ, List.length_nil, List.length_cons, and_true, true_and, Int.natCast_zero, Nat.mul_zero, List.drop_zero]
  · rintro k ⟨hk, hrow⟩
    have hr : ∀ n ∈ b.drop (3 * k), n ≤ 255 := fun n hn => hb n (List.mem_of_mem_drop hn)
    have hrl : (b.drop (3 * k)).length = b.length - 3 * k := List.length_drop
    have hnext : (b.drop (3 * k)).drop 3 = b.drop (3 * (k + 1)) := by rw [List.drop_drop]; congr 1
    generalize b.drop (3 * k) = r at hrow hr hrl hnext
    rcases Nat.lt_or_ge r.length 3 with h3 | h3
    · have a1 : decide ((((txt r).size : Nat) : Int) ≥ 3) = false := by rw [txt_size]; simp only [decide_eq_false_iff_not]; omega
      rw [rowN_plain (isC_short h3), Nat.add_zero] at hrow
      rw [hrow]
      simp only [a1, go_sem, Nat.reduceAdd, Nat.reduceEqDiff, Nat.reduceLT, reduceIte, reduceCtorEq, Nat.reduceBEq, Int.reduceLT, Int.reduceToNat, Int.reducePow, Nat.reduceLeDiff, Int.reduceLE, Nat.reduceMul, Nat.reduceSub]
      simp only [Done, resAV, resL, resOne, look_nil, look_cons, Nat.reduceEqDiff, if_true, if_false, reduceIte, ite_true, ite_false, Nat.zero_ne_one, Nat.one_ne_zero, reduceCtorEq, true_or, or_true, true_and, Option.some.injEq, AV.lit.injEq, Value.int.injEq, Value.bool.injEq]
    · match r, h3 with
      | a :: x :: y :: t, _ =>
        have ha := hr a (by simp)
        have hx := hr x (by simp)
        have hy := hr y (by simp)
        have a1 : decide ((((txt (a :: x :: y :: t)).size : Nat) : Int) ≥ 3) = true := by rw [txt_size]; simp only [decide_eq_true_eq, List.length_cons]; omega
        simp only [a1, txt_get0, u8_int ha, go_sem, Nat.reduceAdd, Nat.reduceEqDiff, Nat.reduceLT, reduceIte, reduceCtorEq, Nat.reduceBEq, Int.reduceLT, Int.reduceToNat, Int.reducePow, Nat.reduceLeDiff, Int.reduceLE, Nat.reduceMul, Nat.reduceSub]
        by_cases h37 : a = 37
        · subst h37
          have b1 : ((((37 : Nat) : Int)) == 37) = true := rfl
          simp only [b1, txt_get1, u8_int hx, go_sem, Nat.reduceAdd, Nat.reduceEqDiff, Nat.reduceLT, reduceIte, reduceCtorEq, Nat.reduceBEq, Int.reduceLT, Int.reduceToNat, Int.reducePow, Nat.reduceLeDiff, Int.reduceLE, Nat.reduceMul, Nat.reduceSub]
          refine callGo_pure (digit_pure x hx) (by rfl) ?_
          simp only [digA, txt_get2, u8_int hy, go_sem, Nat.reduceAdd, Nat.reduceEqDiff, Nat.reduceLT, reduceIte, reduceCtorEq, Nat.reduceBEq, Int.reduceLT, Int.reduceToNat, Int.reducePow, Nat.reduceLeDiff, Int.reduceLE, Nat.reduceMul, Nat.reduceSub]
          refine callGo_pure (digit_pure y hy) (by rfl) ?_
          have hi : isC (37 :: x :: y :: t) = ((hexOf x).isSome && (hexOf y).isSome) := rfl
          cases p1 : (hexOf x).isSome
          · rw [p1, Bool.false_and] at hi
            rw [rowN_plain hi, Nat.add_zero] at hrow
            rw [hrow]
            simp only [digA, p1, Bool.not_false, go_sem, Nat.reduceAdd, Nat.reduceEqDiff, Nat.reduceLT, reduceIte, reduceCtorEq, Nat.reduceBEq, Int.reduceLT, Int.reduceToNat, Int.reducePow, Nat.reduceLeDiff, Int.reduceLE, Nat.reduceMul, Nat.reduceSub]
            simp only [Done, resAV, resL, resOne, look_nil, look_cons, Nat.reduceEqDiff, if_true, if_false, reduceIte, ite_true, ite_false, Nat.zero_ne_one, Nat.one_ne_zero, reduceCtorEq, true_or, or_true, true_and, Option.some.injEq, AV.lit.injEq, Value.int.injEq, Value.bool.injEq]
          · cases p2 : (hexOf y).isSome
            · rw [p1, p2, Bool.and_false] at hi
              rw [rowN_plain hi, Nat.add_zero] at hrow
              rw [hrow]
              simp only [digA, p1, p2, Bool.not_false, Bool.not_true, go_sem, Nat.reduceAdd, Nat.reduceEqDiff, Nat.reduceLT, reduceIte, reduceCtorEq, Nat.reduceBEq, Int.reduceLT, Int.reduceToNat, Int.reducePow, Nat.reduceLeDiff, Int.reduceLE, Nat.reduceMul, Nat.reduceSub]
              simp only [Done, resAV, resL, resOne, look_nil, look_cons, Nat.reduceEqDiff, if_true, if_false, reduceIte, ite_true, ite_false, Nat.zero_ne_one, Nat.one_ne_zero, reduceCtorEq, true_or, or_true, true_and, Option.some.injEq, AV.lit.injEq, Value.int.injEq, Value.bool.injEq]
            · rw [p1, p2, Bool.and_true] at hi
              rw [rowN_code hi] at hrow
              have hd : (37 :: x :: y :: t).drop 3 = t := rfl
              rw [hd] at hnext hrow
              simp only [List.length_cons] at hrl
              have hw : IntKind.i64.wrap ((k : Int) + 1) = ((k + 1 : Nat) : Int) := by rw [wrap_i64 _ (by omega) (by omega)]; omega
              simp only [digA, p1, p2, Bool.not_false, Bool.not_true, txt_size, List.length_cons, txt_tail3, Nat.le_refl, and_self, go_sem, Nat.reduceAdd, Nat.reduceEqDiff, Nat.reduceLT, reduceIte, reduceCtorEq, Nat.reduceBEq, Int.reduceLT, Int.reduceToNat, Int.reducePow, Nat.reduceLeDiff, Int.reduceLE, Nat.reduceMul, Nat.reduceSub]
              have hx3 : (txt (37 :: x :: y :: t)).extract 3 (t.length + 1 + 1 + 1) = txt t := txt_tail3 37 (x :: y :: t)
              refine ⟨k + 1, weak_by [] List.nodup_nil rfl ?_ trivial trivial (by simp), ⟨by omega, by rw [← hnext]; omega⟩, by omega⟩
              simp only [go_sem, Nat.reduceAdd, Nat.reduceEqDiff, Nat.reduceLT, reduceIte, reduceCtorEq, Nat.reduceBEq, Int.reduceLT, Int.reduceToNat, Int.reducePow, Nat.reduceLeDiff, Int.reduceLE, Nat.reduceMul, Nat.reduceSub, slotsBy, boxesBy, tipsBy, rawAt, nm, AV.ren, AV.renL, AV.under, AV.underL, List.all_nil, List.all_cons, bne_self_eq_false, List.getD_cons_zero, List.getD_cons_succ, List.length_nil, List.length_cons, and_true, true_and, hw, hx3, ← hnext]
        · have b1 : (((a : Nat) : Int) == 37) = false := by simp only [beq_eq_false_iff_ne, ne_eq]; omega
          have hi : isC (a :: x :: y :: t) = false := by simp [isC, h37]
          rw [rowN_plain hi, Nat.add_zero] at hrow
          rw [hrow]
          simp only [b1, go_sem, Nat.reduceAdd, Nat.reduceEqDiff, Nat.reduceLT, reduceIte, reduceCtorEq, Nat.reduceBEq, Int.reduceLT, Int.reduceToNat, Int.reducePow, Nat.reduceLeDiff, Int.reduceLE, Nat.reduceMul, Nat.reduceSub]
          simp only [Done, resAV, resL, resOne, look_nil, look_cons, Nat.reduceEqDiff, if_true, if_false, reduceIte, ite_true, ite_false, Nat.zero_ne_one, Nat.one_ne_zero, reduceCtorEq, true_or, or_true, true_and, Option.some.injEq, AV.lit.injEq, Value.int.injEq, Value.bool.injEq]
end Go.Proofs.YteekelelcbfekaaDoor
