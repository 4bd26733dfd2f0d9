/-
Maps of counts, told as lists. Conditions: none.
-/
import Derived.Test.YtocaeclhmkojiaaMix6
set_option linter.unusedSimpArgs false
set_option linter.unusedVariables false
set_option linter.unusedSectionVars false
namespace Go.Proofs.Ytocaeclhmkojiaa
open Go Go.Ab Go.ChangeShapes Go.WideShapes Go.ChangeAt Go.RowKit
/-- How many of each class: in the order in which they came. -/
def inc : List (Int × Int) → Int → List (Int × Int)
  | [], c => [(c, 1)]
  | (k, n) :: ms, c => if k = c then (k, n + 1) :: ms else (k, n) :: inc ms c
def getN : List (Int × Int) → Int → Int
  | [], _ => 0
  | (k, n) :: ms, c => if k = c then n else getN ms c
def mc (ms : List (Int × Int)) : List AV := ms.flatMap fun p => [.lit (.int .u8 p.1), .lit (.int .i64 p.2)]
theorem mc_nil : mc [] = [] := rfl
theorem mc_cons (k n : Int) (ms : List (Int × Int)) : mc ((k, n) :: ms) = .lit (.int .u8 k) :: .lit (.int .i64 n) :: mc ms := rfl
theorem mc_lkp (c : Int) : ∀ (ms : List (Int × Int)) (i : Nat), (findA (.int .u8 c) (mc ms) i).map (lkpV false (.int .i64 0)) = some (.lit (.int .i64 (getN ms c)))
  | [], i => rfl
  | (k, n) :: ms, i => by
    rw [mc_cons, findA_cons, eqKey_int]
    by_cases h : k = c
    · subst h; simp [findO, getN, lkpV]
    · have : (c == k) = false := by simpa using fun e => h e.symm
      rw [this, findO_f, mc_lkp c ms, getN, if_neg h]
theorem mc_shift (c : Int) (ms : List (Int × Int)) : ∀ (i : Nat), findA (.int .u8 c) (mc ms) i = (findA (.int .u8 c) (mc ms) 0).map (fun o => o.map (fun p => (p.1 + i, p.2))) := by
  induction ms with
  | nil => intro i; rfl
  | cons p ms ih =>
    obtain ⟨k, n⟩ := p
    intro i
    simp only [mc_cons, findA_cons, eqKey_int]
    cases hck : (c == k)
    · rw [findO_f, findO_f, ih (i + 1), ih (0 + 1), Option.map_map]
      congr 1
      funext o
      cases o
      · rfl
      · simp only [Function.comp, Option.map_some, Option.some.injEq, Prod.mk.injEq, and_true]; omega
    · simp [findO]
theorem mc_set (j : Nat) (v : AV) (a b : AV) (l : List AV) : (a :: b :: l).set (2 * (j + 1) + 1) v = a :: b :: l.set (2 * j + 1) v := by
  rw [show 2 * (j + 1) + 1 = (2 * j + 1) + 1 + 1 by omega, List.set_cons_succ, List.set_cons_succ]
theorem mc_mup (c : Int) (k0 e0 : TypeId) : ∀ (ms : List (Int × Int)), mupF k0 e0 ms.length (mc ms) (.int .u8 c) (.lit (.int .i64 (getN ms c + 1))) (findA (.int .u8 c) (mc ms) 0) = some (.ob (.map k0 e0 (inc ms c).length) (mc (inc ms c)))
  | [] => rfl
  | (k, n) :: ms => by
    have ih := mc_mup c k0 e0 ms
    by_cases h : k = c
    · subst h
      simp [mc_cons, findA_cons, eqKey_int, findO, mupF, getN, inc]
    · have h' : (c == k) = false := by simpa using fun e => h e.symm
      have hf : findA (.int .u8 c) (mc ((k, n) :: ms)) 0 = findA (.int .u8 c) (mc ms) (0 + 1) := by rw [mc_cons, findA_cons, eqKey_int, h', findO_f]
      rw [hf, mc_shift c ms (0 + 1)]
      simp only [getN, inc, if_neg h]
      cases hq : findA (.int .u8 c) (mc ms) 0 with
      | none => rw [hq] at ih; simp [mupF] at ih
      | some o =>
        rw [hq] at ih
        cases o with
        | none =>
          simp only [mupF, Option.some.injEq, AV.ob.injEq, OK.map.injEq, true_and] at ih
          simp only [Option.map_some, Option.map_none, mupF, Option.some.injEq, AV.ob.injEq, OK.map.injEq, true_and, List.length_cons, mc_cons, List.cons_append, ← ih.2, ← ih.1, and_self]
        | some p =>
          obtain ⟨j, u⟩ := p
          simp only [mupF, Option.some.injEq, AV.ob.injEq, OK.map.injEq, true_and] at ih
          simp only [Option.map_some, mupF, Option.some.injEq, AV.ob.injEq, OK.map.injEq, true_and, List.length_cons, mc_cons, ← ih.2, ← ih.1, show j + (0 + 1) = j + 1 from rfl, mc_set, and_self]

theorem mc_ren (f : Nat → Nat) (ms : List (Int × Int)) : AV.renL f (mc ms) = mc ms := by
  induction ms with
  | nil => rfl
  | cons p ms ih => obtain ⟨k, n⟩ := p; simp only [mc_cons, AV.renL, AV.ren, ih]
theorem mc_under (n : Nat) (ms : List (Int × Int)) : AV.underL n (mc ms) = true := by
  induction ms with
  | nil => rfl
  | cons p ms ih => obtain ⟨k, m⟩ := p; simp only [mc_cons, AV.underL, AV.under, ih, Bool.and_self]

theorem getN_inc (ms : List (Int × Int)) (c d : Int) : getN (inc ms c) d = if c = d then getN ms d + 1 else getN ms d := by
  induction ms with
  | nil => simp [inc, getN]
  | cons p ms ih =>
    obtain ⟨k, n⟩ := p
    by_cases h : k = c
    · subst h
      by_cases h2 : k = d <;> simp [inc, getN, h2]
    · by_cases h2 : k = d
      · subst h2
        have : ¬ c = k := fun e => h e.symm
        simp [inc, getN, h, this]
      · simp [inc, getN, h, h2, ih]
theorem keys_inc (ms : List (Int × Int)) (c : Int) : ∀ p ∈ inc ms c, p.1 = c ∨ ∃ q ∈ ms, q.1 = p.1 := by
  induction ms with
  | nil => intro p hp; simp [inc] at hp; exact .inl (by rw [hp])
  | cons q ms ih =>
    obtain ⟨k, n⟩ := q
    intro p hp
    by_cases h : k = c
    · simp only [inc, if_pos h] at hp
      rcases List.mem_cons.1 hp with rfl | hp
      · exact .inl h
      · exact .inr ⟨p, List.mem_cons_of_mem _ hp, rfl⟩
    · simp only [inc, if_neg h] at hp
      rcases List.mem_cons.1 hp with rfl | hp
      · exact .inr ⟨_, List.mem_cons_self, rfl⟩
      · rcases ih p hp with h1 | ⟨q, h1, h2⟩
        · exact .inl h1
        · exact .inr ⟨q, List.mem_cons_of_mem _ h1, h2⟩
theorem mc_get : ∀ {ms : List (Int × Int)} {i : Nat} {key : AV}, (mc ms)[2 * i]? = some key → ∃ p ∈ ms, key = .lit (.int .u8 p.1)
  | [], i, key, h => by simp [mc] at h
  | (k, n) :: ms, 0, key, h => by
    simp only [mc_cons, Nat.mul_zero, List.getElem?_cons_zero, Option.some.injEq] at h
    exact ⟨_, List.mem_cons_self, h.symm⟩
  | (k, n) :: ms, i + 1, key, h => by
    rw [mc_cons, show 2 * (i + 1) = 2 * i + 1 + 1 by omega, List.getElem?_cons_succ, List.getElem?_cons_succ] at h
    obtain ⟨p, h1, h2⟩ := mc_get h
    exact ⟨p, List.mem_cons_of_mem _ h1, h2⟩

/-- Some keys, counted. -/
def incs : List Nat → List (Int × Int) → List (Int × Int)
  | [], ms => ms
  | s :: l, ms => incs l (inc ms s)
theorem incs_append (l q : List Nat) (ms : List (Int × Int)) : incs (l ++ q) ms = incs q (incs l ms) := by
  induction l generalizing ms with
  | nil => rfl
  | cons s l ih => simp only [List.cons_append, incs]; exact ih _
theorem incs_take {l : List Nat} {i : Nat} (hi : i < l.length) (ms : List (Int × Int)) : incs (l.take (i + 1)) ms = inc (incs (l.take i) ms) (l[i] : Nat) := by
  rw [List.take_succ_eq_append_getElem hi, incs_append]; rfl
theorem getN_incs (l : List Nat) (ms : List (Int × Int)) (d : Int) : getN (incs l ms) d = getN ms d + (l.countP fun (s : Nat) => (s : Int) == d : Nat) := by
  induction l generalizing ms with
  | nil => simp [incs]
  | cons s l ih =>
    rw [incs, ih, getN_inc, List.countP_cons]
    by_cases h : (s : Int) = d <;> simp [h]; omega
theorem inc_keys (ms : List (Int × Int)) (c : Int) : (inc ms c).map (·.1) = if c ∈ ms.map (·.1) then ms.map (·.1) else ms.map (·.1) ++ [c] := by
  induction ms with
  | nil => simp [inc]
  | cons p ms ih =>
    obtain ⟨k, n⟩ := p
    by_cases h : k = c
    · subst h; simp [inc]
    · have h' : ¬ c = k := fun e => h e.symm
      simp only [inc, if_neg h, List.map_cons, ih, List.mem_cons, h', false_or]
      split <;> simp
theorem incs_nodup (l : List Nat) (ms : List (Int × Int)) (h : (ms.map (·.1)).Nodup) : ((incs l ms).map (·.1)).Nodup := by
  induction l generalizing ms with
  | nil => exact h
  | cons s l ih =>
    refine ih _ ?_
    rw [inc_keys]
    split
    · exact h
    · rename_i hn
      refine List.nodup_append.2 ⟨h, by simp, fun a ha b hb => ?_⟩
      simp only [List.mem_singleton] at hb
      subst hb
      exact fun e => hn (e ▸ ha)
theorem incs_mem (l : List Nat) (ms : List (Int × Int)) (c : Int) : c ∈ (incs l ms).map (·.1) ↔ c ∈ ms.map (·.1) ∨ ∃ s ∈ l, (s : Int) = c := by
  induction l generalizing ms with
  | nil => simp [incs]
  | cons s l ih =>
    rw [incs, ih, inc_keys]
    by_cases hm : (s : Int) ∈ ms.map (·.1)
    · rw [if_pos hm]
      constructor
      · rintro (h | ⟨x, h1, h2⟩)
        · exact .inl h
        · exact .inr ⟨x, List.mem_cons_of_mem _ h1, h2⟩
      · rintro (h | ⟨x, h1, h2⟩)
        · exact .inl h
        · rcases List.mem_cons.1 h1 with rfl | h1
          · exact .inl (h2 ▸ hm)
          · exact .inr ⟨x, h1, h2⟩
    · rw [if_neg hm]
      simp only [List.mem_append, List.mem_singleton]
      constructor
      · rintro ((h | h) | ⟨x, h1, h2⟩)
        · exact .inl h
        · exact .inr ⟨s, List.mem_cons_self, h.symm⟩
        · exact .inr ⟨x, List.mem_cons_of_mem _ h1, h2⟩
      · rintro (h | ⟨x, h1, h2⟩)
        · exact .inl (.inl h)
        · rcases List.mem_cons.1 h1 with rfl | h1
          · exact .inl (.inr h2.symm)
          · exact .inr ⟨x, h1, h2⟩
theorem incs_length (l : List Nat) (ms : List (Int × Int)) : (incs l ms).length ≤ ms.length + l.length := by
  induction l generalizing ms with
  | nil => simp [incs]
  | cons s l ih =>
    have h1 := ih (inc ms s)
    have h2 : (inc ms s).length ≤ ms.length + 1 := by
      have := congrArg List.length (inc_keys ms s)
      rw [List.length_map] at this
      rw [this]
      split <;> simp
    simp only [incs, List.length_cons]
    omega
end Go.Proofs.Ytocaeclhmkojiaa
