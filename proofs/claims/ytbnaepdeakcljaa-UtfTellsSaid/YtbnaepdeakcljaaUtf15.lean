/-
How many bytes go on to a scalar, and what they say. Conditions: none.
-/
import Derived.Test.YtbnaepdeakcljaaUtf14
set_option linter.unusedSimpArgs false
set_option linter.unusedVariables false
set_option linter.unusedSectionVars false
namespace Go.Proofs.Ytbnaepdeakcljaa
open Go Go.Ab

/-- As many bytes go on as may. -/
def GoesTo (b : List Nat) (K : Nat) : Prop := (∀ j, j < K → goesB (b.take (j + 1)) = true) ∧ K ≤ b.length ∧ (K = b.length ∨ goesB (b.take (K + 1)) = false)
theorem GoesTo.uniq {b : List Nat} {k K : Nat} (h : GoesTo b k) (h' : GoesTo b K) : k = K := by
  obtain ⟨a1, a2, a3⟩ := h
  obtain ⟨b1, b2, b3⟩ := h'
  rcases Nat.lt_trichotomy k K with hl | hl | hl
  · rcases a3 with a3 | a3
    · omega
    · rw [b1 k hl] at a3; cases a3
  · exact hl
  · rcases b3 with b3 | b3
    · omega
    · rw [a1 K hl] at b3; cases b3

/-- What the first code of bytes is, told by who goes on. -/
def Said (c : Nat) (t : List Nat) : Prop := ∃ K, GoesTo (c :: t) K ∧
  ((0 < K ∧ longN c = K ∧ ∃ r : Nat, nx (c :: t) = (r, K, true) ∧ (r : Int) = numI 0 (K - 1) (subN K c) (t.take (K - 1)) ∧ r < 2097152) ∨
   (¬(0 < K ∧ longN c = K) ∧ nx (c :: t) = (65533, if K = 0 then 1 else K, false)))

theorem said_bad {c : Nat} {t : List Nat} (hc : c ≤ 255) (h : leadB c = false) : Said c t := by
  refine ⟨0, ⟨fun j hj => by omega, Nat.zero_le _, .inr ?_⟩, .inr ⟨by omega, ?_⟩⟩
  · show goesB [c] = false
    rw [goes1 hc, h]
  · simp only [nx, h, Bool.false_eq_true, if_false, if_true]

theorem all_lt2 {p : Nat → Prop} (h0 : p 0) (h1 : p 1) : ∀ j, j < 2 → p j
  | 0, _ => h0
  | 1, _ => h1
theorem all_lt3 {p : Nat → Prop} (h0 : p 0) (h1 : p 1) (h2 : p 2) : ∀ j, j < 3 → p j
  | 0, _ => h0
  | 1, _ => h1
  | 2, _ => h2
theorem all_lt4 {p : Nat → Prop} (h0 : p 0) (h1 : p 1) (h2 : p 2) (h3 : p 3) : ∀ j, j < 4 → p j
  | 0, _ => h0
  | 1, _ => h1
  | 2, _ => h2
  | 3, _ => h3

theorem nx_lead {c : Nat} {t : List Nat} (h : leadB c = true) : nx (c :: t) = goOn (behindOf c) (lowOf c) (topOf c) (bitsOf c) 1 t := by simp only [nx, h, if_true]
theorem tail_iff (x : Nat) : isTail x = true ↔ 128 ≤ x ∧ x ≤ 191 := by simp only [isTail, Bool.and_eq_true, decide_eq_true_eq]

theorem gOk {n lo hi r k x : Nat} {t : List Nat} (h : ¬(x < lo ∨ hi < x)) : goOn (n + 1) lo hi r k (x :: t) = goOn n 128 191 (r * 64 + x % 64) (k + 1) t := by rw [goOn, if_neg h]
theorem gBad {n lo hi r k x : Nat} {t : List Nat} (h : x < lo ∨ hi < x) : goOn (n + 1) lo hi r k (x :: t) = (65533, k, false) := by rw [goOn, if_pos h]
theorem gZero (lo hi r k : Nat) (t : List Nat) : goOn 0 lo hi r k t = (r, k, true) := by cases t <;> rfl
theorem gNil (n lo hi r k : Nat) : goOn (n + 1) lo hi r k [] = (65533, k, false) := rfl
theorem not_tail {y : Nat} (h : isTail y = false) : y < 128 ∨ 191 < y := by
  rcases Nat.lt_or_ge y 128 with h1 | h1
  · exact .inl h1
  · rcases Nat.lt_or_ge 191 y with h2 | h2
    · exact .inr h2
    · rw [(tail_iff y).2 ⟨h1, h2⟩] at h; cases h

theorem said_lead {c : Nat} {t : List Nat} (hc : c ≤ 255) (ht : ∀ y ∈ t, y ≤ 255) (h : leadB c = true) : Said c t := by
  have hL := long_lead h
  have hff := first_facts h
  have g1 : goesB [c] = true := by rw [goes1 hc, h]
  by_cases h0 : behindOf c = 0
  · have h128 : c ≤ 127 := by
      rcases lead_cases h with h1 | ⟨h1, h2⟩ | ⟨h1, h2⟩ | ⟨h1, h2⟩
      · exact h1
      · have := (f2 h1 h2).1; omega
      · have := (f3 h1 h2).1; omega
      · have := (f4 h1 h2).1; omega
    refine ⟨1, ⟨fun j hj => by obtain rfl : j = 0 := by omega
                               exact g1, by simp, ?_⟩, .inl ⟨by omega, by omega, c, ?_, ?_, by omega⟩⟩
    · cases t with
      | nil => exact .inl rfl
      | cons y t => exact .inr (goes_long (by simp only [List.length_cons, List.take_succ_cons, List.take_zero, List.length_nil]; omega))
    · rw [nx_lead h, h0, (f1 h128).2.1]; cases t <;> rfl
    · rfl
  have hb0 : 0 < behindOf c := by omega
  cases t with
  | nil =>
    refine ⟨1, ⟨fun j hj => by obtain rfl : j = 0 := by omega
                               exact g1, by simp, .inl rfl⟩, .inr ⟨by omega, ?_⟩⟩
    rw [nx_lead h, goOn_nil hb0]; rfl
  | cons x t =>
    have hx := ht x (List.mem_cons_self ..)
    have g2 := goes2 h hb0 hx
    by_cases hxo : lowOf c ≤ x ∧ x ≤ topOf c
    · have g2t : goesB [c, x] = true := by rw [g2, decide_eq_true hxo.1, decide_eq_true hxo.2]; rfl
      have hxn : ¬(x < lowOf c ∨ topOf c < x) := by omega
      have hm : behindOf c = 1 ∨ behindOf c = 2 ∨ behindOf c = 3 := by omega
      rcases hm with hm | hm | hm
      · have hcr : 194 ≤ c ∧ c ≤ 223 := by
          rcases lead_cases h with h1 | ⟨h1, h2⟩ | ⟨h1, h2⟩ | ⟨h1, h2⟩
          · have := (f1 h1).1; omega
          · exact ⟨h1, h2⟩
          · have := (f3 h1 h2).1; omega
          · have := (f4 h1 h2).1; omega
        obtain ⟨e1, e2, e3, e4⟩ := f2 hcr.1 hcr.2
        refine ⟨2, ⟨all_lt2 g1 g2t, by simp, ?_⟩, .inl ⟨by omega, by omega, bitsOf c * 64 + x % 64, ?_, ?_, by omega⟩⟩
        · cases t with
          | nil => exact .inl rfl
          | cons y t => exact .inr (goes_long (by simp only [List.length_cons, List.take_succ_cons, List.take_zero, List.length_nil]; omega))
        · rw [nx_lead h, hm, gOk hxn, gZero]
        · show _ = 64 * (subN 2 c) + ((x : Int) - 128)
          have : subN 2 c = (c : Int) - 192 := rfl
          omega
      · have hcr : 224 ≤ c ∧ c ≤ 239 := by
          rcases lead_cases h with h1 | ⟨h1, h2⟩ | ⟨h1, h2⟩ | ⟨h1, h2⟩
          · have := (f1 h1).1; omega
          · have := (f2 h1 h2).1; omega
          · exact ⟨h1, h2⟩
          · have := (f4 h1 h2).1; omega
        obtain ⟨e1, e2, e3, e4⟩ := f3 hcr.1 hcr.2
        cases t with
        | nil =>
          refine ⟨2, ⟨all_lt2 g1 g2t, by simp, .inl rfl⟩, .inr ⟨by omega, ?_⟩⟩
          rw [nx_lead h, hm, gOk hxn, gNil]; rfl
        | cons y t =>
          cases hy : isTail y with
          | false =>
            refine ⟨2, ⟨all_lt2 g1 g2t, by simp, .inr (goes_tail (by show [x, y].all isTail = false; simp [hy]))⟩, .inr ⟨by omega, ?_⟩⟩
            rw [nx_lead h, hm, gOk hxn, gBad (not_tail hy)]; rfl
          | true =>
            have hyt := (tail_iff y).1 hy
            have g3 : goesB [c, x, y] = true := goes3 h hxo (by simp [hy]) (by simp only [List.length_cons, List.length_nil]; omega)
            refine ⟨3, ⟨all_lt3 g1 g2t g3, by simp, ?_⟩, .inl ⟨by omega, by omega, (bitsOf c * 64 + x % 64) * 64 + y % 64, ?_, ?_, by omega⟩⟩
            · cases t with
              | nil => exact .inl rfl
              | cons z t => exact .inr (goes_long (by simp only [List.length_cons, List.take_succ_cons, List.take_zero, List.length_nil]; omega))
            · rw [nx_lead h, hm, gOk hxn, gOk (by omega), gZero]
            · show _ = 64 * (64 * (subN 3 c) + ((x : Int) - 128)) + ((y : Int) - 128)
              have : subN 3 c = (c : Int) - 224 := rfl
              omega
      · have hcr : 240 ≤ c ∧ c ≤ 244 := by
          rcases lead_cases h with h1 | ⟨h1, h2⟩ | ⟨h1, h2⟩ | ⟨h1, h2⟩
          · have := (f1 h1).1; omega
          · have := (f2 h1 h2).1; omega
          · have := (f3 h1 h2).1; omega
          · exact ⟨h1, h2⟩
        obtain ⟨e1, e2, e3, e4⟩ := f4 hcr.1 hcr.2
        cases t with
        | nil =>
          refine ⟨2, ⟨all_lt2 g1 g2t, by simp, .inl rfl⟩, .inr ⟨by omega, ?_⟩⟩
          rw [nx_lead h, hm, gOk hxn, gNil]; rfl
        | cons y t =>
          cases hy : isTail y with
          | false =>
            refine ⟨2, ⟨all_lt2 g1 g2t, by simp, .inr (goes_tail (by show [x, y].all isTail = false; simp [hy]))⟩, .inr ⟨by omega, ?_⟩⟩
            rw [nx_lead h, hm, gOk hxn, gBad (not_tail hy)]; rfl
          | true =>
            have hyt := (tail_iff y).1 hy
            have g3 : goesB [c, x, y] = true := goes3 h hxo (by simp [hy]) (by simp only [List.length_cons, List.length_nil]; omega)
            cases t with
            | nil =>
              refine ⟨3, ⟨all_lt3 g1 g2t g3, by simp, .inl rfl⟩, .inr ⟨by omega, ?_⟩⟩
              rw [nx_lead h, hm, gOk hxn, gOk (by omega), gNil]; rfl
            | cons z t =>
              cases hz : isTail z with
              | false =>
                refine ⟨3, ⟨all_lt3 g1 g2t g3, by simp, .inr (goes_tail (by show [x, y, z].all isTail = false; simp [hz]))⟩, .inr ⟨by omega, ?_⟩⟩
                rw [nx_lead h, hm, gOk hxn, gOk (by omega), gBad (not_tail hz)]; rfl
              | true =>
                have hzt := (tail_iff z).1 hz
                have g4 : goesB [c, x, y, z] = true := goes3 h hxo (by simp [hy, hz]) (by simp only [List.length_cons, List.length_nil]; omega)
                refine ⟨4, ⟨all_lt4 g1 g2t g3 g4, by simp, ?_⟩, .inl ⟨by omega, by omega, ((bitsOf c * 64 + x % 64) * 64 + y % 64) * 64 + z % 64, ?_, ?_, by omega⟩⟩
                · cases t with
                  | nil => exact .inl rfl
                  | cons v t => exact .inr (goes_long (by simp only [List.length_cons, List.take_succ_cons, List.take_zero, List.length_nil]; omega))
                · rw [nx_lead h, hm, gOk hxn, gOk (by omega), gOk (by omega), gZero]
                · show _ = 64 * (64 * (64 * (subN 4 c) + ((x : Int) - 128)) + ((y : Int) - 128)) + ((z : Int) - 128)
                  have : subN 4 c = (c : Int) - 240 := rfl
                  omega
    · have g2f : goesB [c, x] = false := by
        rw [g2, Bool.and_eq_false_iff, decide_eq_false_iff_not, decide_eq_false_iff_not]
        by_cases hl : lowOf c ≤ x
        · exact .inr fun hh => hxo ⟨hl, hh⟩
        · exact .inl hl
      refine ⟨1, ⟨fun j hj => by obtain rfl : j = 0 := by omega
                                 exact g1, by simp, .inr g2f⟩, .inr ⟨by omega, ?_⟩⟩
      rw [nx_lead h, goOn_bad hb0 (by omega)]; rfl

theorem said_all {c : Nat} {t : List Nat} (h : ∀ y ∈ c :: t, y ≤ 255) : Said c t := by
  have hc := h c (List.mem_cons_self ..)
  cases hl : leadB c with
  | false => exact said_bad hc hl
  | true => exact said_lead hc (fun y hy => h y (List.mem_cons_of_mem _ hy)) hl
end Go.Proofs.Ytbnaepdeakcljaa
