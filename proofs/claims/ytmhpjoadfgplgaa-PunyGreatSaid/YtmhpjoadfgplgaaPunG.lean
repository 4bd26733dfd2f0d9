/-
The law of insertions: how a row grows, scalar by scalar, and what is told of it. Conditions: none.
-/
import Derived.Test.YtmhpjoadfgplgaaPunF
set_option linter.unusedSimpArgs false
set_option linter.unusedVariables false
set_option linter.unusedSectionVars false
namespace Go.Proofs.Ytmhpjoadfgplgaa

/-- The places where those that are v are put, in a part of a row; pos: how many up to v stand ahead of it. -/
def rowS (v : Nat) : Nat → List Nat → List (Nat × Nat)
  | _, [] => []
  | pos, r :: t => if r = v then (v, pos) :: rowS v (pos + 1) t else if r < v then rowS v (pos + 1) t else rowS v pos t
/-- All that is put, from n on. -/
def opsF (L : List Nat) (n : Nat) : List (Nat × Nat) := (List.range' n (1114112 - n)).flatMap fun v => rowS v 0 L
/-- The row that they make. -/
def bld (L : List Nat) : List (Nat × Nat) → List Nat
  | [] => L
  | (m, p) :: r => bld (L.take p ++ m :: L.drop p) r
/-- Their steps, and how many there are behind each. -/
def dls (n i h : Nat) : List (Nat × Nat) → List (Nat × Nat)
  | [] => []
  | (m, p) :: r => ((m - n) * (h + 1) + p - i, h + 1) :: dls m (p + 1) (h + 1) r
/-- Rising, each within the row. -/
def okO (n i h : Nat) : List (Nat × Nat) → Prop
  | [] => True
  | (m, p) :: r => (n < m ∨ (n = m ∧ i ≤ p)) ∧ p ≤ h ∧ okO m (p + 1) (h + 1) r
/-- How many up to v there are. -/
def cntL (v : Nat) (L : List Nat) : Nat := (L.filter fun x => decide (x ≤ v)).length

theorem bld_append : ∀ (a b : List (Nat × Nat)) (L : List Nat), bld L (a ++ b) = bld (bld L a) b
  | [], _, _ => rfl
  | (m, p) :: a, b, L => bld_append a b _
theorem bld_length : ∀ (a : List (Nat × Nat)) (L : List Nat), (∀ x ∈ a, True) → (bld L a).length = L.length + a.length
  | [], L, _ => rfl
  | (m, p) :: a, L, _ => by
    rw [bld, bld_length a _ (by simp)]
    simp only [List.length_append, List.length_take, List.length_cons, List.length_drop]
    omega
theorem dls_length : ∀ (a : List (Nat × Nat)) (n i h : Nat), (dls n i h a).length = a.length
  | [], _, _, _ => rfl
  | (m, p) :: a, n, i, h => by simp [dls, dls_length a]

theorem cntL_nil (v : Nat) : cntL v [] = 0 := rfl
theorem cntL_append (v : Nat) (a b : List Nat) : cntL v (a ++ b) = cntL v a + cntL v b := by simp [cntL]
theorem cntL_cons (v r : Nat) (t : List Nat) : cntL v (r :: t) = (if r ≤ v then 1 else 0) + cntL v t := by
  unfold cntL
  by_cases h : r ≤ v
  · simp [h]; omega
  · simp [h]
theorem cntL_le (v : Nat) (L : List Nat) : cntL v L ≤ L.length := List.length_filter_le _ _
theorem cntL_all {v : Nat} {L : List Nat} (h : ∀ x ∈ L, x ≤ v) : cntL v L = L.length := by
  unfold cntL
  rw [List.filter_eq_self.2 (by simpa using h)]

theorem rowS_append (v : Nat) : ∀ (a b : List Nat) (pos : Nat), rowS v pos (a ++ b) = rowS v pos a ++ rowS v (pos + cntL v a) b
  | [], b, pos => rfl
  | r :: t, b, pos => by
    simp only [List.cons_append, rowS, cntL_cons]
    by_cases h : r = v
    · rw [if_pos h, if_pos h, if_pos (by omega), rowS_append v t b (pos + 1), List.cons_append, Nat.add_assoc]
    · by_cases h2 : r < v
      · rw [if_neg h, if_neg h, if_pos h2, if_pos h2, if_pos (by omega), rowS_append v t b (pos + 1), Nat.add_assoc]
      · rw [if_neg h, if_neg h, if_neg h2, if_neg h2, if_neg (by omega), rowS_append v t b pos, Nat.zero_add]
theorem rowS_none {v : Nat} : ∀ {L : List Nat} (pos : Nat), (∀ x ∈ L, x ≠ v) → rowS v pos L = []
  | [], _, _ => rfl
  | r :: t, pos, h => by
    have h1 : ∀ pos, rowS v pos t = [] := fun pos => rowS_none pos fun x hx => h x (by simp [hx])
    simp only [rowS, h1, if_neg (h r (by simp))]
    split <;> rfl
theorem rowS_mem {v : Nat} : ∀ {L : List Nat} {pos : Nat} {x : Nat × Nat}, x ∈ rowS v pos L → x.1 = v ∧ v ∈ L
  | r :: t, pos, x, h => by
    simp only [rowS] at h
    split at h
    · rename_i hr
      rcases List.mem_cons.1 h with rfl | h
      · exact ⟨rfl, by simp [hr]⟩
      · exact ⟨(rowS_mem h).1, by simp [(rowS_mem h).2]⟩
    · split at h
      · exact ⟨(rowS_mem h).1, by simp [(rowS_mem h).2]⟩
      · exact ⟨(rowS_mem h).1, by simp [(rowS_mem h).2]⟩

theorem opsF_cons (L : List Nat) {n : Nat} (h : n < 1114112) : opsF L n = rowS n 0 L ++ opsF L (n + 1) := by
  unfold opsF
  obtain ⟨k, hk⟩ : ∃ k, 1114112 - n = k + 1 := ⟨1114111 - n, by omega⟩
  rw [hk, List.range'_succ, List.flatMap_cons, show 1114112 - (n + 1) = k by omega]
theorem opsF_skip (L : List Nat) : ∀ (k n : Nat), n + k ≤ 1114112 → (∀ x ∈ L, ¬ (n ≤ x ∧ x < n + k)) → opsF L n = opsF L (n + k)
  | 0, n, _, _ => rfl
  | k + 1, n, hk, h => by
    rw [opsF_cons L (by omega), rowS_none 0 (fun x hx e => h x hx (by omega)), List.nil_append, opsF_skip L k (n + 1) (by omega) (fun x hx hc => h x hx (by omega))]
    congr 1; omega
theorem opsF_end (L : List Nat) {n : Nat} (h : ∀ x ∈ L, x < n) : opsF L n = [] := by
  unfold opsF
  rw [List.flatMap_eq_nil_iff]
  intro v hv
  have := List.mem_range'_1.1 hv
  exact rowS_none 0 fun x hx e => by have := h x hx; omega

/-- One value's own ones are put between those below. -/
theorem bld_rowS (v : Nat) : ∀ (t A : List Nat), bld (A ++ t.filter fun x => decide (x < v)) (rowS v A.length t) = A ++ t.filter fun x => decide (x ≤ v)
  | [], A => rfl
  | r :: t, A => by
    simp only [rowS]
    by_cases h : r = v
    · subst h
      rw [if_pos rfl]
      simp only [bld]
      have := bld_rowS r t (A ++ [r])
      simp only [List.length_append, List.length_singleton] at this
      rw [List.filter_cons_of_neg (by simp), List.filter_cons_of_pos (by simp), List.take_left, List.drop_left]
      rw [List.append_assoc] at this
      rw [show A ++ [r] ++ t.filter (fun x => decide (x ≤ r)) = A ++ r :: t.filter (fun x => decide (x ≤ r)) by simp] at this
      exact this
    · by_cases h2 : r < v
      · rw [if_neg h, if_pos h2, List.filter_cons_of_pos (by simpa using h2), List.filter_cons_of_pos (by simp; omega)]
        have := bld_rowS v t (A ++ [r])
        simp only [List.length_append, List.length_singleton, List.append_assoc, List.singleton_append] at this
        exact this
      · rw [if_neg h, if_neg h2, List.filter_cons_of_neg (by simpa using h2), List.filter_cons_of_neg (by simp; omega)]
        exact bld_rowS v t A
theorem bld_range (L : List Nat) : ∀ (k n : Nat), bld (L.filter fun x => decide (x < n)) ((List.range' n k).flatMap fun v => rowS v 0 L) = L.filter fun x => decide (x < n + k)
  | 0, n => rfl
  | k + 1, n => by
    rw [List.range'_succ, List.flatMap_cons, bld_append]
    have h := bld_rowS n L []
    rw [List.nil_append, List.nil_append, List.length_nil] at h
    rw [h]
    have e : (L.filter fun x => decide (x ≤ n)) = L.filter fun x => decide (x < n + 1) := by
      congr 1; funext x; simp; omega
    rw [e, bld_range L k (n + 1)]
    congr 1; funext x; simp; omega
/-- All of them make the row. -/
theorem bld_opsF {L : List Nat} (hL : ∀ x ∈ L, x ≤ 1114111) : bld (L.filter fun x => decide (x < 128)) (opsF L 128) = L := by
  unfold opsF
  rw [bld_range]
  exact List.filter_eq_self.2 (by intro x hx; have := hL x hx; simp; omega)

/-- Where the last one was put. -/
def lst (s : Nat × Nat × Nat) : List (Nat × Nat) → Nat × Nat × Nat
  | [] => s
  | (m, p) :: r => lst (m, p + 1, s.2.2 + 1) r
theorem okO_append : ∀ (a b : List (Nat × Nat)) (n i h : Nat), okO n i h (a ++ b) ↔ okO n i h a ∧ okO (lst (n, i, h) a).1 (lst (n, i, h) a).2.1 (lst (n, i, h) a).2.2 b
  | [], b, n, i, h => by simp [okO, lst]
  | (m, p) :: a, b, n, i, h => by
    simp only [List.cons_append, okO, lst, okO_append a b m (p + 1) (h + 1)]
    constructor
    · rintro ⟨h1, h2, h3, h4⟩; exact ⟨⟨h1, h2, h3⟩, h4⟩
    · rintro ⟨⟨h1, h2, h3⟩, h4⟩; exact ⟨h1, h2, h3, h4⟩
theorem lst_append : ∀ (a b : List (Nat × Nat)) (s : Nat × Nat × Nat), lst s (a ++ b) = lst (lst s a) b
  | [], _, _ => rfl
  | (m, p) :: a, b, s => lst_append a b _
theorem lst_h : ∀ (a : List (Nat × Nat)) (s : Nat × Nat × Nat), (lst s a).2.2 = s.2.2 + a.length
  | [], _ => rfl
  | (m, p) :: a, s => by rw [lst, lst_h a]; simp; omega
end Go.Proofs.Ytmhpjoadfgplgaa
