/-
Scalars and their bytes, in plain numbers. Conditions: none.
-/
import Derived.Test.YtbnaepdeakcljaaUtf3
set_option linter.unusedSimpArgs false
set_option linter.unusedVariables false
set_option linter.unusedSectionVars false
namespace Go.Proofs.Ytbnaepdeakcljaa
open Go Go.Ab

/-- A scalar's bytes. -/
def encN (r : Nat) : List Nat :=
  if r ≤ 127 then [r] else if r ≤ 2047 then [192 + r / 64, 128 + r % 64] else if r ≤ 65535 then [224 + r / 4096, 128 + r / 64 % 64, 128 + r % 64] else
    [240 + r / 262144, 128 + r / 4096 % 64, 128 + r / 64 % 64, 128 + r % 64]
def Scalar (r : Nat) : Prop := r < 55296 ∨ (57343 < r ∧ r ≤ 1114111)

theorem goOn_succ (n lo hi r k x : Nat) (t : List Nat) : goOn (n + 1) lo hi r k (x :: t) = if x < lo ∨ hi < x then (65533, k, false) else goOn n 128 191 (r * 64 + x % 64) (k + 1) t := rfl
theorem goOn_end (n lo hi r k : Nat) : goOn (n + 1) lo hi r k [] = (65533, k, false) := rfl
theorem goOn_zero (lo hi r k : Nat) (t : List Nat) : goOn 0 lo hi r k t = (r, k, true) := by cases t <;> rfl

theorem enc1 {r : Nat} (h : r ≤ 127) : encN r = [r] := by simp only [encN, if_pos h]
theorem enc2 {r : Nat} (h1 : 127 < r) (h2 : r ≤ 2047) : encN r = [192 + r / 64, 128 + r % 64] := by simp only [encN, if_neg (show ¬ r ≤ 127 by omega), if_pos h2]
theorem enc3 {r : Nat} (h1 : 2047 < r) (h2 : r ≤ 65535) : encN r = [224 + r / 4096, 128 + r / 64 % 64, 128 + r % 64] := by simp only [encN, if_neg (show ¬ r ≤ 127 by omega), if_neg (show ¬ r ≤ 2047 by omega), if_pos h2]
theorem enc4 {r : Nat} (h1 : 65535 < r) : encN r = [240 + r / 262144, 128 + r / 4096 % 64, 128 + r / 64 % 64, 128 + r % 64] := by simp only [encN, if_neg (show ¬ r ≤ 127 by omega), if_neg (show ¬ r ≤ 2047 by omega), if_neg (show ¬ r ≤ 65535 by omega)]

theorem enc_cases (r : Nat) : (r ≤ 127) ∨ (127 < r ∧ r ≤ 2047) ∨ (2047 < r ∧ r ≤ 65535) ∨ (65535 < r) := by omega

theorem encN_len (r : Nat) : 1 ≤ (encN r).length ∧ (encN r).length ≤ 4 := by
  rcases enc_cases r with h | ⟨h1, h2⟩ | ⟨h1, h2⟩ | h
  · rw [enc1 h]; simp
  · rw [enc2 h1 h2]; simp
  · rw [enc3 h1 h2]; simp
  · rw [enc4 h]; simp

theorem encN_octs {r : Nat} (h : r ≤ 1114111) : ∀ n ∈ encN r, n ≤ 255 := by
  rcases enc_cases r with h1 | ⟨h1, h2⟩ | ⟨h1, h2⟩ | h1
  · rw [enc1 h1]; simp; omega
  · rw [enc2 h1 h2]; simp; omega
  · rw [enc3 h1 h2]; simp; omega
  · rw [enc4 h1]; simp; omega

/-- Bytes that are said: they are a scalar's. -/
theorem nx_ok {b : List Nat} {r k : Nat} (hb : ∀ n ∈ b, n ≤ 255) (h : nx b = (r, k, true)) : Scalar r ∧ b.take k = encN r ∧ k = (encN r).length := by
  match b, hb, h with
  | [], _, h => simp [nx] at h
  | c :: t, hb, h =>
    by_cases hL : leadB c = true
    · rw [nx_cons hL] at h
      rcases lead_cases hL with h1 | ⟨h1, h2⟩ | ⟨h1, h2⟩ | ⟨h1, h2⟩
      · obtain ⟨e1, e2, e3, e4⟩ := f1 h1
        rw [e1, goOn_zero, e2] at h
        simp only [Prod.mk.injEq, and_true] at h
        obtain ⟨rfl, rfl⟩ := h
        rw [enc1 h1]
        exact ⟨.inl (by omega), rfl, rfl⟩
      · obtain ⟨e1, e2, e3, e4⟩ := f2 h1 h2
        rw [e1, e2, e3, e4] at h
        match t, h with
        | [], h => simp [goOn_end] at h
        | x :: t, h =>
          rw [goOn_succ] at h
          split at h
          · simp at h
          · rw [goOn_zero] at h
            simp only [Prod.mk.injEq, and_true] at h
            obtain ⟨h3, rfl⟩ := h
            rw [enc2 (by omega) (by omega)]
            refine ⟨.inl (by omega), ?_, rfl⟩
            simp only [List.take_succ_cons, List.take_zero, List.cons.injEq, and_true]
            omega
      · obtain ⟨e1, e2, e3, e4⟩ := f3 h1 h2
        rw [e1, e2] at h
        have q1 : 128 ≤ lowOf c ∧ (c = 224 → 160 ≤ lowOf c) := by rw [e3]; split <;> omega
        have q2 : topOf c ≤ 191 ∧ (c = 237 → topOf c ≤ 159) := by rw [e4]; split <;> omega
        generalize lowOf c = L at h q1
        generalize topOf c = T at h q2
        match t, h with
        | [], h => simp [goOn_end] at h
        | x :: [], h =>
          rw [goOn_succ] at h
          split at h
          · simp at h
          · simp [goOn_end] at h
        | x :: y :: t, h =>
          rw [goOn_succ] at h
          split at h
          · simp at h
          · rename_i hx
            rw [goOn_succ] at h
            split at h
            · simp at h
            · rw [goOn_zero] at h
              simp only [Prod.mk.injEq, and_true] at h
              obtain ⟨h3, rfl⟩ := h
              have hx1 : 128 ≤ x ∧ (c = 224 → 160 ≤ x) := by omega
              have hx2 : x ≤ 191 ∧ (c = 237 → x ≤ 159) := by omega
              have hy : 128 ≤ y ∧ y ≤ 191 := by omega
              have hc : r = (c - 224) * 4096 + (x - 128) * 64 + (y - 128) := by omega
              rw [enc3 (by omega) (by omega)]
              refine ⟨by unfold Scalar; omega, ?_, rfl⟩
              simp only [List.take_succ_cons, List.take_zero, List.cons.injEq, and_true]
              omega
      · obtain ⟨e1, e2, e3, e4⟩ := f4 h1 h2
        rw [e1, e2] at h
        have q1 : 128 ≤ lowOf c ∧ (c = 240 → 144 ≤ lowOf c) := by rw [e3]; split <;> omega
        have q2 : topOf c ≤ 191 ∧ (c = 244 → topOf c ≤ 143) := by rw [e4]; split <;> omega
        generalize lowOf c = L at h q1
        generalize topOf c = T at h q2
        match t, h with
        | [], h => simp [goOn_end] at h
        | x :: [], h =>
          rw [goOn_succ] at h
          split at h
          · simp at h
          · simp [goOn_end] at h
        | x :: y :: [], h =>
          rw [goOn_succ] at h
          split at h
          · simp at h
          · rw [goOn_succ] at h
            split at h
            · simp at h
            · simp [goOn_end] at h
        | x :: y :: z :: t, h =>
          rw [goOn_succ] at h
          split at h
          · simp at h
          · rename_i hx
            rw [goOn_succ] at h
            split at h
            · simp at h
            · rw [goOn_succ] at h
              split at h
              · simp at h
              · rw [goOn_zero] at h
                simp only [Prod.mk.injEq, and_true] at h
                obtain ⟨h3, rfl⟩ := h
                have hx1 : 128 ≤ x ∧ (c = 240 → 144 ≤ x) := by omega
                have hx2 : x ≤ 191 ∧ (c = 244 → x ≤ 143) := by omega
                have hy : 128 ≤ y ∧ y ≤ 191 := by omega
                have hz : 128 ≤ z ∧ z ≤ 191 := by omega
                have hc : r = (c - 240) * 262144 + (x - 128) * 4096 + (y - 128) * 64 + (z - 128) := by omega
                rw [enc4 (by omega)]
                refine ⟨by unfold Scalar; omega, ?_, rfl⟩
                simp only [List.take_succ_cons, List.take_zero, List.cons.injEq, and_true]
                omega
    · simp [nx, hL] at h

/-- A scalar's bytes are said, whatever is behind. -/
theorem nx_enc {r : Nat} (h : Scalar r) (t : List Nat) : nx (encN r ++ t) = (r, (encN r).length, true) := by
  unfold Scalar at h
  rcases enc_cases r with h1 | ⟨h1, h2⟩ | ⟨h1, h2⟩ | h1
  · rw [enc1 h1]
    obtain ⟨e1, e2, e3, e4⟩ := f1 h1
    simp only [List.cons_append, List.nil_append]
    rw [nx_cons (lead_t (.inl h1)), e1, goOn_zero, e2]; rfl
  · rw [enc2 h1 h2]
    obtain ⟨e1, e2, e3, e4⟩ := f2 (c := 192 + r / 64) (by omega) (by omega)
    simp only [List.cons_append, List.nil_append]
    rw [nx_cons (lead_t (by omega)), e1, e2, e3, e4, goOn_succ, if_neg (by omega), goOn_zero]
    simp only [List.length_cons, List.length_nil, Prod.mk.injEq, and_true]
    omega
  · rw [enc3 h1 h2]
    obtain ⟨e1, e2, e3, e4⟩ := f3 (c := 224 + r / 4096) (by omega) (by omega)
    simp only [List.cons_append, List.nil_append]
    have q1 : ¬(128 + r / 64 % 64 < (if 224 + r / 4096 = 224 then 160 else 128)) := by split <;> omega
    have q2 : ¬((if 224 + r / 4096 = 237 then 159 else 191) < 128 + r / 64 % 64) := by split <;> omega
    rw [nx_cons (lead_t (by omega)), e1, e2, goOn_succ, if_neg (by rw [e3, e4]; omega), goOn_succ, if_neg (by omega), goOn_zero]
    simp only [List.length_cons, List.length_nil, Prod.mk.injEq, and_true]
    omega
  · rw [enc4 h1]
    obtain ⟨e1, e2, e3, e4⟩ := f4 (c := 240 + r / 262144) (by omega) (by omega)
    simp only [List.cons_append, List.nil_append]
    have q1 : ¬(128 + r / 4096 % 64 < (if 240 + r / 262144 = 240 then 144 else 128)) := by split <;> omega
    have q2 : ¬((if 240 + r / 262144 = 244 then 143 else 191) < 128 + r / 4096 % 64) := by split <;> omega
    rw [nx_cons (lead_t (by omega)), e1, e2, goOn_succ, if_neg (by rw [e3, e4]; omega), goOn_succ, if_neg (by omega), goOn_succ, if_neg (by omega), goOn_zero]
    simp only [List.length_cons, List.length_nil, Prod.mk.injEq, and_true]
    omega

theorem goOn_fail : ∀ (n lo hi r k : Nat) (t : List Nat), (goOn n lo hi r k t).2.2 = false → (goOn n lo hi r k t).1 = 65533 ∧ (goOn n lo hi r k t).2.1 < k + n
  | 0, lo, hi, r, k, t, h => by rw [goOn_zero] at h; cases h
  | n + 1, lo, hi, r, k, [], h => by rw [goOn_end]; exact ⟨rfl, by simp⟩
  | n + 1, lo, hi, r, k, x :: t, h => by
    rw [goOn_succ] at h ⊢
    split
    · exact ⟨rfl, by simp⟩
    · rename_i hx
      rw [if_neg hx] at h
      have := goOn_fail n 128 191 (r * 64 + x % 64) (k + 1) t h
      exact ⟨this.1, by omega⟩

theorem nx_fail {c : Nat} {t : List Nat} (h : (nx (c :: t)).2.2 = false) : (nx (c :: t)).1 = 65533 ∧ (nx (c :: t)).2.1 ≤ 3 ∧ ((nx (c :: t)).2.1 = 3 → 240 ≤ c) := by
  by_cases hL : leadB c = true
  · rw [nx_cons hL] at h ⊢
    have := goOn_fail _ _ _ _ _ _ h
    refine ⟨this.1, ?_, ?_⟩
    · have := (first_facts hL).2.2.2.2.1; omega
    · intro h3
      rcases lead_cases hL with h1 | ⟨h1, h2⟩ | ⟨h1, h2⟩ | ⟨h1, h2⟩
      · have := (f1 h1).1; omega
      · have := (f2 h1 h2).1; omega
      · have := (f3 h1 h2).1; omega
      · exact h1
  · have e : nx (c :: t) = (65533, 1, false) := by simp [nx, hL]
    rw [e]; simp

theorem goOn_take : ∀ (n lo hi r k m : Nat) (t : List Nat), (goOn n lo hi r k t).2.1 ≤ k + m → goOn n lo hi r k (t.take m) = goOn n lo hi r k t
  | 0, lo, hi, r, k, m, t, h => by rw [goOn_zero, goOn_zero]
  | n + 1, lo, hi, r, k, m, [], h => by simp
  | n + 1, lo, hi, r, k, 0, x :: t, h => by
    rw [goOn_succ] at h ⊢
    rw [List.take_zero, goOn_end]
    split
    · rfl
    · rename_i hx
      rw [if_neg hx] at h
      have := (goOn_len n 128 191 (r * 64 + x % 64) (k + 1) t).1
      omega
  | n + 1, lo, hi, r, k, m + 1, x :: t, h => by
    rw [goOn_succ] at h
    rw [List.take_succ_cons, goOn_succ, goOn_succ]
    split
    · rfl
    · rename_i hx
      rw [if_neg hx] at h
      exact goOn_take n 128 191 _ (k + 1) m t (by omega)

/-- What bytes begin with hangs on its own bytes alone, if they end there. -/
theorem nx_take {b : List Nat} {m : Nat} (h : (nx b).2.1 ≤ m) : nx (b.take m) = nx b := by
  match b, h with
  | [], h => simp
  | c :: t, h =>
    have hk := nx_len c t
    obtain ⟨m, rfl⟩ : ∃ m', m = m' + 1 := ⟨m - 1, by omega⟩
    rw [List.take_succ_cons]
    by_cases hL : leadB c = true
    · rw [nx_cons hL] at h ⊢
      rw [nx_cons hL]
      exact goOn_take _ _ _ _ _ _ _ (by omega)
    · simp [nx, hL]
end Go.Proofs.Ytbnaepdeakcljaa
