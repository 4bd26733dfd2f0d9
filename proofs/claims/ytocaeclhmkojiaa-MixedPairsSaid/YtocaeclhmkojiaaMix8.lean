/-
Both answers on scripts and levels are the same. Conditions: none.
-/
import Derived.Test.YtocaeclhmkojiaaMix7
set_option linter.unusedSimpArgs false
set_option linter.unusedVariables false
set_option linter.unusedSectionVars false
namespace Go.Proofs.Ytocaeclhmkojiaa
open Go Go.Ab

theorem marked_get (cs l : List Int) (s : Nat) (h : s < cs.length) : (marked cs l).getD s 0 = if hasScript l s = true then 1 else cs.getD s 0 := by
  induction l generalizing cs with
  | nil => simp [marked, hasScript]
  | cons r l ih =>
    have hs : scriptOf r = s ↔ (rowAt r).script = (s : Int) := by rw [script_eq]; omega
    simp only [marked]
    rw [ih _ (by simpa using h)]
    have hc : hasScript (r :: l) s = (decide ((rowAt r).script = (s : Int)) || hasScript l s) := rfl
    rw [hc]
    by_cases h1 : hasScript l s = true
    · simp [h1]
    · have h1' : hasScript l s = false := by simpa using h1
      simp only [h1', Bool.false_eq_true, if_false, Bool.or_false, decide_eq_true_eq]
      by_cases h2 : (rowAt r).script = (s : Int)
      · rw [if_pos h2, hs.2 h2]
        simp [List.getD, h]
      · rw [if_neg h2]
        simp [List.getD, List.getElem?_set, mt hs.1 h2]

theorem getD_set (cs : List Int) (i s : Nat) (v : Int) (h : s < cs.length) : (cs.set i v).getD s 0 = if i = s then v else cs.getD s 0 := by
  by_cases hi : i = s
  · subst hi; simp [List.getD, h]
  · simp [List.getD, List.getElem?_set, hi]

theorem counts_get (l : List Int) (s : Nat) (h : s < 12) : (counts l).getD s 0 = if 2 ≤ s ∧ hasScript l s = true then 1 else 0 := by
  have hm : (marked (List.replicate 12 (0 : Int)) l).length = 12 := by rw [marked_length]; simp
  unfold counts
  rw [getD_set _ _ _ _ (by rw [List.length_set, hm]; exact h), getD_set _ _ _ _ (by rw [hm]; exact h), marked_get _ _ _ (by rw [List.length_replicate]; exact h)]
  by_cases h1 : 1 = s
  · subst h1; simp
  · by_cases h0 : 0 = s
    · subst h0; simp
    · have h2 : 2 ≤ s := by omega
      have hz : (List.replicate 12 (0 : Int)).getD s 0 = 0 := by rw [List.getD_eq_getElem?_getD, List.getElem?_replicate]; split <;> rfl
      simp only [h1, h0, h2, true_and, if_false, hz]

def num01 (b : Bool) : Int := if b = true then 1 else 0

/-- The counts, by what scripts there are. -/
def bitCounts (b2 b3 b4 b5 b6 b7 b8 b9 b10 b11 : Bool) : List Int := [0, 0, num01 b2, num01 b3, num01 b4, num01 b5, num01 b6, num01 b7, num01 b8, num01 b9, num01 b10, num01 b11]
def one (b : Bool) (n : Nat) : List Nat := if b = true then [n] else []
def bitFound (b2 b3 b4 b5 b6 b7 b8 b9 b10 b11 : Bool) : List Nat := one b2 2 ++ (one b3 3 ++ (one b4 4 ++ (one b5 5 ++ (one b6 6 ++ (one b7 7 ++ (one b8 8 ++ (one b9 9 ++ (one b10 10 ++ one b11 11))))))))

theorem counts_bits (l : List Int) : counts l = bitCounts (hasScript l 2) (hasScript l 3) (hasScript l 4) (hasScript l 5) (hasScript l 6) (hasScript l 7) (hasScript l 8) (hasScript l 9) (hasScript l 10) (hasScript l 11) := by
  have hl := counts_length l
  have g := counts_get l
  generalize counts l = cs at hl g
  obtain ⟨x0, x1, x2, x3, x4, x5, x6, x7, x8, x9, x10, x11, rfl⟩ := twelve hl
  have e0 := g 0 (by omega)
  have e1 := g 1 (by omega)
  have e2 := g 2 (by omega)
  have e3 := g 3 (by omega)
  have e4 := g 4 (by omega)
  have e5 := g 5 (by omega)
  have e6 := g 6 (by omega)
  have e7 := g 7 (by omega)
  have e8 := g 8 (by omega)
  have e9 := g 9 (by omega)
  have e10 := g 10 (by omega)
  have e11 := g 11 (by omega)
  simp at e0 e1 e2 e3 e4 e5 e6 e7 e8 e9 e10 e11
  simp only [bitCounts, num01, e0, e1, e2, e3, e4, e5, e6, e7, e8, e9, e10, e11]

theorem found_bits (l : List Int) : found l 12 = bitFound (hasScript l 2) (hasScript l 3) (hasScript l 4) (hasScript l 5) (hasScript l 6) (hasScript l 7) (hasScript l 8) (hasScript l 9) (hasScript l 10) (hasScript l 11) := by
  have e : List.range 12 = [0, 1, 2, 3, 4, 5, 6, 7, 8, 9, 10, 11] := rfl
  have step : ∀ (b : Bool) (n : Nat) (p : Nat → Bool) (q : List Nat), p n = b → (n :: q).filter p = one b n ++ q.filter p := fun b n p q h => by
    rw [List.filter_cons, h]; cases b <;> rfl
  unfold found bitFound
  rw [e]
  rw [step false 0 _ _ (by simp), step false 1 _ _ (by simp), step (hasScript l 2) 2 _ _ (by simp), step (hasScript l 3) 3 _ _ (by simp), step (hasScript l 4) 4 _ _ (by simp), step (hasScript l 5) 5 _ _ (by simp),
    step (hasScript l 6) 6 _ _ (by simp), step (hasScript l 7) 7 _ _ (by simp), step (hasScript l 8) 8 _ _ (by simp), step (hasScript l 9) 9 _ _ (by simp), step (hasScript l 10) 10 _ _ (by simp), step (hasScript l 11) 11 _ _ (by simp)]
  simp [one]

theorem told_found (l : List Int) : told (counts l) 12 = found l 12 := by
  unfold told found
  refine List.filter_congr fun s hs => ?_
  rw [counts_get l s (by simpa using hs)]
  by_cases h1 : 2 ≤ s
  · cases hb : hasScript l s <;> simp [h1]
  · simp [h1]

def bitLevel (cs : List Int) : Int := if total cs < 2 ∨ eastOf cs = true then 2 else if eastOf (cleared cs [2]) = true then 3 else 4
def bitRefLevel (q : List Nat) : Int := if togetherOf q = true then 2 else
    if (togetherOf (bareOf q) && (decide ((bareOf q).length < q.length) && (amongOf (bareOf q) 8 9 10 || amongOf (bareOf q) 8 11 11))) = true then 3 else 4

theorem bits_same : ∀ b2 b3 b4 b5 b6 b7 b8 b9 b10 b11 : Bool, bitLevel (bitCounts b2 b3 b4 b5 b6 b7 b8 b9 b10 b11) = bitRefLevel (bitFound b2 b3 b4 b5 b6 b7 b8 b9 b10 b11) := by decide +kernel

theorem level_same (l : List Int) : levelOf l = refLevelOf l := by
  have h1 : levelOf l = if l.any wideOne = false then 1 else bitLevel (counts l) := rfl
  have h2 : refLevelOf l = if l.any wideOne = false then 1 else bitRefLevel (found l 12) := rfl
  rw [h1, h2, counts_bits, found_bits, bits_same]

theorem check_same (l : List Int) : checkOf l = refCheckOf l := by simp only [checkOf, refCheckOf, level_same]
end Go.Proofs.Ytocaeclhmkojiaa
