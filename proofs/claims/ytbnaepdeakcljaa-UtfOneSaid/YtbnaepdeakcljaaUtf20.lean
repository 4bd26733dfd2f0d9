/-
A map of counts whose keys are codes. Conditions: none.
-/
import Derived.Test.YtbnaepdeakcljaaUtf19
set_option linter.unusedSimpArgs false
set_option linter.unusedVariables false
set_option linter.unusedSectionVars false
namespace Go.Proofs.Ytbnaepdeakcljaa
open Go Go.Ab Go.ChangeShapes Go.WideShapes Go.ChangeAt Go.RowKit

def keyV (x : Nat × Nat × Nat) : List Value := [.int .i32 ((x.1 : Nat) : Int), .int .i64 ((x.2.1 : Nat) : Int), .int .i64 ((x.2.2 : Nat) : Int)]
def incC : List ((Nat × Nat × Nat) × Nat) → Nat × Nat × Nat → List ((Nat × Nat × Nat) × Nat)
  | [], c => [(c, 1)]
  | (k, n) :: ms, c => if k = c then (k, n + 1) :: ms else (k, n) :: incC ms c
def getC : List ((Nat × Nat × Nat) × Nat) → Nat × Nat × Nat → Nat
  | [], _ => 0
  | (k, n) :: ms, c => if k = c then n else getC ms c
def idxC : List ((Nat × Nat × Nat) × Nat) → Nat × Nat × Nat → Nat → Option (Nat × AV)
  | [], _, _ => none
  | (k, n) :: ms, c, i => if k = c then some (i, .lit (.int .i64 ((n : Nat) : Int))) else idxC ms c (i + 1)
def mcC (ms : List ((Nat × Nat × Nat) × Nat)) : List AV := ms.flatMap fun p => [.ag ((keyV p.1).map .lit), .lit (.int .i64 ((p.2 : Nat) : Int))]
theorem mcC_cons (k : Nat × Nat × Nat) (n : Nat) (ms : List ((Nat × Nat × Nat) × Nat)) : mcC ((k, n) :: ms) = .ag ((keyV k).map .lit) :: .lit (.int .i64 ((n : Nat) : Int)) :: mcC ms := rfl
theorem eqK_key (a b : Nat × Nat × Nat) : eqK [.int, .int, .int] (keyV a) (keyV b) = some (decide (b = a)) := by
  obtain ⟨a1, a2, a3⟩ := a
  obtain ⟨b1, b2, b3⟩ := b
  have e : ∀ (k : IntKind) (x y : Nat), eqV BK.int (.int k (x : Int)) (.int k (y : Int)) = some (decide (y = x)) := fun k x y => by
    simp only [eqV, if_true]
    congr 1
    by_cases h : y = x
    · simp [h]
    · simp [h]; omega
  simp only [keyV, eqK, e]
  by_cases h1 : b1 = a1 <;> by_cases h2 : b2 = a2 <;> by_cases h3 : b3 = a3 <;> simp [h1, h2, h3]
theorem find_idx (c : Nat × Nat × Nat) : ∀ (ms : List ((Nat × Nat × Nat) × Nat)) (i : Nat), findS [.int, .int, .int] (keyV c) (mcC ms) i = some (idxC ms c i)
  | [], i => rfl
  | (k, n) :: ms, i => by
    rw [mcC_cons, findS_cons, eqK_key, idxC]
    by_cases h : k = c
    · simp [h, findO]
    · rw [if_neg h, ← find_idx c ms (i + 1)]
      simp [h, findO]
theorem mcC_set (j : Nat) (v : AV) (a b : AV) (l : List AV) : (a :: b :: l).set (2 * (j + 1) + 1) v = a :: b :: l.set (2 * j + 1) v := by
  rw [show 2 * (j + 1) + 1 = (2 * j + 1) + 1 + 1 by omega, List.set_cons_succ, List.set_cons_succ]
theorem mcC_append (a b : List ((Nat × Nat × Nat) × Nat)) : mcC (a ++ b) = mcC a ++ mcC b := by simp [mcC]
theorem mcC_len (a : List ((Nat × Nat × Nat) × Nat)) : (mcC a).length = 2 * a.length := by
  induction a with
  | nil => rfl
  | cons p a ih => obtain ⟨k, n⟩ := p; rw [mcC_cons]; simp only [List.length_cons, ih]; omega
theorem mc_none (c : Nat × Nat × Nat) : ∀ (ms : List ((Nat × Nat × Nat) × Nat)) (i : Nat), idxC ms c i = none →
    getC ms c = 0 ∧ incC ms c = ms ++ [(c, 1)] ∧ idxC (ms ++ [(c, 0)]) c i = some (i + ms.length, .lit (.int .i64 0))
  | [], i, _ => ⟨rfl, rfl, by simp [idxC]⟩
  | (k, n) :: ms, i, h => by
    by_cases e : k = c
    · simp [idxC, e] at h
    · rw [idxC, if_neg e] at h
      obtain ⟨h1, h2, h3⟩ := mc_none c ms (i + 1) h
      refine ⟨by rw [getC, if_neg e, h1], by rw [incC, if_neg e, h2]; rfl, ?_⟩
      rw [List.cons_append, idxC, if_neg e, h3, List.length_cons]
      congr 2
      omega
theorem mc_some (c : Nat × Nat × Nat) : ∀ (ms : List ((Nat × Nat × Nat) × Nat)) (i : Nat) (p : Nat × AV), idxC ms c i = some p →
    ∃ j, p = (i + j, .lit (.int .i64 ((getC ms c : Nat) : Int))) ∧ j < ms.length ∧ (mcC ms).set (2 * j + 1) (.lit (.int .i64 ((getC ms c + 1 : Nat) : Int))) = mcC (incC ms c) ∧ (incC ms c).length = ms.length
  | [], i, p, h => by simp [idxC] at h
  | (k, n) :: ms, i, p, h => by
    by_cases e : k = c
    · rw [idxC, if_pos e] at h
      simp only [Option.some.injEq] at h
      subst h
      refine ⟨0, by rw [getC, if_pos e]; rfl, by simp, ?_, by simp [incC, e]⟩
      rw [getC, if_pos e, incC, if_pos e, mcC_cons, mcC_cons]
      rfl
    · rw [idxC, if_neg e] at h
      obtain ⟨j, h1, h2, h3, h4⟩ := mc_some c ms (i + 1) p h
      refine ⟨j + 1, ?_, by simp only [List.length_cons]; omega, ?_, by rw [incC, if_neg e]; simp [h4]⟩
      · rw [h1, getC, if_neg e]; congr 1; omega
      · rw [getC, if_neg e, incC, if_neg e, mcC_cons, mcC_set, h3, mcC_cons]
theorem getC_inc (ms : List ((Nat × Nat × Nat) × Nat)) (c d : Nat × Nat × Nat) : getC (incC ms c) d = if c = d then getC ms d + 1 else getC ms d := by
  induction ms with
  | nil => simp [incC, getC]
  | cons p ms ih =>
    obtain ⟨k, n⟩ := p
    by_cases h : k = c
    · subst h
      by_cases h2 : k = d <;> simp [incC, getC, h2]
    · by_cases h2 : k = d
      · subst h2
        have h3 : ¬ c = k := fun x => h x.symm
        simp [incC, getC, h, h3]
      · simp [incC, getC, h, h2, ih]
def incsC (l : List (Nat × Nat × Nat)) : List ((Nat × Nat × Nat) × Nat) := l.foldl incC []
theorem incsC_snoc (l : List (Nat × Nat × Nat)) (x : Nat × Nat × Nat) : incsC (l ++ [x]) = incC (incsC l) x := by simp [incsC]
theorem getC_fold (x : Nat × Nat × Nat) : ∀ (l : List (Nat × Nat × Nat)) (ms : List ((Nat × Nat × Nat) × Nat)), getC (l.foldl incC ms) x = getC ms x + l.countP (fun y => y == x)
  | [], ms => rfl
  | y :: l, ms => by
    rw [List.foldl_cons, getC_fold x l, getC_inc, List.countP_cons]
    by_cases h : y = x
    · simp [h]; omega
    · simp [h]
theorem getC_count (l : List (Nat × Nat × Nat)) (x : Nat × Nat × Nat) : getC (incsC l) x = l.countP (fun y => y == x) := by
  unfold incsC; rw [getC_fold]; simp [getC]
theorem mcC_ren (f : Nat → Nat) (ms : List ((Nat × Nat × Nat) × Nat)) : AV.renL f (mcC ms) = mcC ms := by
  induction ms with
  | nil => rfl
  | cons p ms ih => obtain ⟨k, n⟩ := p; simp only [mcC_cons, keyV, List.map_cons, List.map_nil, AV.renL, AV.ren, ih]
theorem mcC_under (n : Nat) (ms : List ((Nat × Nat × Nat) × Nat)) : AV.underL n (mcC ms) = true := by
  induction ms with
  | nil => rfl
  | cons p ms ih => obtain ⟨k, m⟩ := p; simp only [mcC_cons, keyV, List.map_cons, List.map_nil, AV.underL, AV.under, ih, Bool.and_self]
/-- What a look says. -/
theorem lkp_code (c : Nat × Nat × Nat) (ms : List ((Nat × Nat × Nat) × Nat)) : (findS [.int, .int, .int] (keyV c) (mcC ms) 0).map (lkpV false (.int .i64 0)) = some (.lit (.int .i64 ((getC ms c : Nat) : Int))) := by
  rw [find_idx]
  cases h : idxC ms c 0 with
  | none => simp [(mc_none c ms 0 h).1, lkpV, litA]
  | some p =>
    obtain ⟨j, h1, _⟩ := mc_some c ms 0 p h
    simp [h1, lkpV]
end Go.Proofs.Ytbnaepdeakcljaa
