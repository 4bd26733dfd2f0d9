/-
The law: what is told of a row is read as that row, and the other way about. Conditions: none.
-/
import Derived.Test.YtmhpjoadfgplgaaPunG
set_option linter.unusedSimpArgs false
set_option linter.unusedVariables false
set_option linter.unusedSectionVars false
namespace Go.Proofs.Ytmhpjoadfgplgaa

theorem opsF_split (L : List Nat) (n k : Nat) (h : n + k ≤ 1114112) : opsF L n = ((List.range' n k).flatMap fun v => rowS v 0 L) ++ opsF L (n + k) := by
  unfold opsF
  rw [← List.flatMap_append, List.range'_append_1]
  congr 2; omega

/-- n is the greatest one, and none of them stands from i on. -/
def Top (L : List Nat) (n i : Nat) : Prop := (∀ x ∈ L, x ≤ n) ∧ ∀ x ∈ L.drop i, x < n

theorem top_new {L : List Nat} {n i m p : Nat} (h : Top L n i) (hm : n < m ∨ (n = m ∧ i ≤ p)) (hp : p ≤ L.length) : Top (L.take p ++ m :: L.drop p) m (p + 1) := by
  have hle : ∀ x ∈ L, x ≤ m := fun x hx => by have := h.1 x hx; omega
  have hd : ∀ x ∈ L.drop p, x < m := fun x hx => by
    rcases hm with hm | ⟨rfl, hi⟩
    · have := h.1 x (List.mem_of_mem_drop hx); omega
    · exact h.2 x (by
        have e : L.drop p = (L.drop i).drop (p - i) := by rw [List.drop_drop]; congr 1; omega
        rw [e] at hx
        exact List.mem_of_mem_drop hx)
  refine ⟨fun x hx => ?_, fun x hx => ?_⟩
  · rcases List.mem_append.1 hx with hx | hx
    · exact hle x (List.mem_of_mem_take hx)
    · rcases List.mem_cons.1 hx with rfl | hx
      · exact Nat.le_refl _
      · exact hle x (List.mem_of_mem_drop hx)
  · have hl : (L.take p).length = p := by rw [List.length_take]; omega
    rw [List.drop_append, hl, List.drop_of_length_le (by omega), List.nil_append, show p + 1 - p = 1 by omega, List.drop_succ_cons, List.drop_zero] at hx
    exact hd x hx

theorem opsF_new {L : List Nat} {n i m p : Nat} (h : Top L n i) (hn : 128 ≤ n) (hm : n < m ∨ (n = m ∧ i ≤ p)) (hp : p ≤ L.length) (hm2 : m ≤ 1114111) : opsF (L.take p ++ m :: L.drop p) 128 = opsF L 128 ++ [(m, p)] := by
  have hT := top_new h hm hp
  have hle : ∀ x ∈ L, x ≤ m := fun x hx => by have := h.1 x hx; omega
  have hd : ∀ x ∈ L.drop p, x ≠ m := fun x hx e => by
    have := hT.2 x (by
      have hl : (L.take p).length = p := by rw [List.length_take]; omega
      rw [List.drop_append, hl, List.drop_of_length_le (by omega), List.nil_append, show p + 1 - p = 1 by omega, List.drop_succ_cons, List.drop_zero]
      exact hx)
    omega
  have hc : cntL m (L.take p) = p := by rw [cntL_all fun x hx => hle x (List.mem_of_mem_take hx), List.length_take]; omega
  have hlow : ∀ v, v < m → rowS v 0 (L.take p ++ m :: L.drop p) = rowS v 0 L := fun v hv => by
    have e : L = L.take p ++ L.drop p := (List.take_append_drop p L).symm
    conv => rhs; rw [e]
    rw [rowS_append, rowS_append]
    congr 1
    rw [rowS, if_neg (by omega), if_neg (by omega)]
  rw [opsF_split _ 128 (m - 128) (by omega), opsF_split L 128 (m - 128) (by omega), show 128 + (m - 128) = m by omega, opsF_cons _ (show m < 1114112 by omega), opsF_cons L (show m < 1114112 by omega)]
  rw [opsF_end (L.take p ++ m :: L.drop p) (n := m + 1) (fun x hx => by have := hT.1 x hx; omega), opsF_end L (n := m + 1) (fun x hx => by have := hle x hx; omega), List.append_nil, List.append_nil, List.append_assoc]
  have e1 : ((List.range' 128 (m - 128)).flatMap fun v => rowS v 0 (L.take p ++ m :: L.drop p)) = ((List.range' 128 (m - 128)).flatMap fun v => rowS v 0 L) := by
    have : ∀ l : List Nat, (∀ v ∈ l, v < m) → (l.flatMap fun v => rowS v 0 (L.take p ++ m :: L.drop p)) = (l.flatMap fun v => rowS v 0 L) := by
      intro l
      induction l with
      | nil => intro _; rfl
      | cons a l ih => intro hl; rw [List.flatMap_cons, List.flatMap_cons, hlow a (hl a (by simp)), ih fun v hv => hl v (by simp [hv])]
    exact this _ fun v hv => by have := List.mem_range'_1.1 hv; omega
  rw [e1]
  refine (List.append_right_inj _).2 ?_
  have e2 : rowS m 0 L = rowS m 0 (L.take p) := by
    conv => lhs; rw [← List.take_append_drop p L]
    rw [rowS_append, rowS_none _ hd, List.append_nil]
  rw [e2, rowS_append, hc]
  refine (List.append_right_inj _).2 ?_
  rw [rowS, if_pos rfl, rowS_none _ hd, Nat.zero_add]

/-- Whatever rises is what is put, of the row that it makes. -/
theorem opsF_bld : ∀ (ops : List (Nat × Nat)) (L : List Nat) (n i : Nat), Top L n i → 128 ≤ n → okO n i L.length ops → (∀ x ∈ ops, x.1 ≤ 1114111) → opsF (bld L ops) 128 = opsF L 128 ++ ops
  | [], L, n, i, _, _, _, _ => by simp [bld]
  | (m, p) :: r, L, n, i, h, hn, hok, hm => by
    obtain ⟨h1, h2, h3⟩ := hok
    have hl : (L.take p ++ m :: L.drop p).length = L.length + 1 := by simp only [List.length_append, List.length_take, List.length_cons, List.length_drop]; omega
    rw [bld, opsF_bld r _ m (p + 1) (top_new h h1 h2) (by omega) (by rw [hl]; exact h3) (fun x hx => hm x (by simp [hx])), opsF_new h hn h1 h2 (hm (m, p) (by simp)), List.append_assoc]
    rfl
theorem plain_bld : ∀ (ops : List (Nat × Nat)) (L : List Nat), (∀ x ∈ ops, 128 ≤ x.1) → (bld L ops).filter (fun x => decide (x < 128)) = L.filter fun x => decide (x < 128)
  | [], L, _ => rfl
  | (m, p) :: r, L, h => by
    have hm : 128 ≤ m := h (m, p) (by simp)
    rw [bld, plain_bld r _ fun x hx => h x (by simp [hx]), List.filter_append, List.filter_cons_of_neg (by simp; omega), ← List.filter_append, List.take_append_drop]
theorem okO_ge : ∀ (ops : List (Nat × Nat)) (n i h : Nat), okO n i h ops → ∀ x ∈ ops, n ≤ x.1
  | [], _, _, _, _, x, hx => by cases hx
  | (m, p) :: r, n, i, h, hok, x, hx => by
    obtain ⟨h1, h2, h3⟩ := hok
    rcases List.mem_cons.1 hx with rfl | hx
    · simp only; omega
    · have := okO_ge r m (p + 1) (h + 1) h3 x hx
      omega

theorem rowS_length (v : Nat) : ∀ (t : List Nat) (pos : Nat), (rowS v pos t).length + (t.filter fun x => decide (x < v)).length = (t.filter fun x => decide (x < v + 1)).length
  | [], _ => rfl
  | r :: t, pos => by
    simp only [rowS]
    by_cases h : r = v
    · have := rowS_length v t (pos + 1)
      rw [if_pos h, List.filter_cons_of_neg (by simp; omega), List.filter_cons_of_pos (by simp; omega), List.length_cons, List.length_cons]
      omega
    · by_cases h2 : r < v
      · have := rowS_length v t (pos + 1)
        rw [if_neg h, if_pos h2, List.filter_cons_of_pos (by simpa using h2), List.filter_cons_of_pos (by simp; omega), List.length_cons, List.length_cons]
        omega
      · have := rowS_length v t pos
        rw [if_neg h, if_neg h2, List.filter_cons_of_neg (by simpa using h2), List.filter_cons_of_neg (by simp; omega)]
        omega
theorem ok_rowS (v : Nat) : ∀ (t : List Nat) (pos n i h : Nat), (n < v ∨ (n = v ∧ i ≤ pos)) → pos + (t.filter fun x => decide (x < v)).length ≤ h → okO n i h (rowS v pos t) ∧ (lst (n, i, h) (rowS v pos t)).1 ≤ v
  | [], pos, n, i, h, h1, _ => ⟨trivial, by simp only [rowS, lst]; omega⟩
  | r :: t, pos, n, i, h, h1, h2 => by
    simp only [rowS]
    by_cases hr : r = v
    · rw [List.filter_cons_of_neg (by simp; omega)] at h2
      rw [if_pos hr]
      have := ok_rowS v t (pos + 1) v (pos + 1) (h + 1) (.inr ⟨rfl, Nat.le_refl _⟩) (by omega)
      exact ⟨⟨h1, by omega, this.1⟩, this.2⟩
    · by_cases hr2 : r < v
      · rw [List.filter_cons_of_pos (by simpa using hr2), List.length_cons] at h2
        rw [if_neg hr, if_pos hr2]
        exact ok_rowS v t (pos + 1) n i h (by omega) (by omega)
      · rw [List.filter_cons_of_neg (by simpa using hr2)] at h2
        rw [if_neg hr, if_neg hr2]
        exact ok_rowS v t pos n i h h1 h2
theorem ok_range (L : List Nat) : ∀ (k n n0 i0 : Nat), (n0 < n ∨ (n0 = n ∧ i0 ≤ 0)) → okO n0 i0 (L.filter fun x => decide (x < n)).length ((List.range' n k).flatMap fun v => rowS v 0 L)
  | 0, n, n0, i0, _ => trivial
  | k + 1, n, n0, i0, h => by
    rw [List.range'_succ, List.flatMap_cons, okO_append]
    have h1 := ok_rowS n L 0 n0 i0 _ h (Nat.le_of_eq (Nat.zero_add _))
    refine ⟨h1.1, ?_⟩
    have h2 := rowS_length n L 0
    have h3 := lst_h (rowS n 0 L) (n0, i0, (L.filter fun x => decide (x < n)).length)
    simp only at h3
    rw [h3, Nat.add_comm, h2]
    exact ok_range L k (n + 1) _ _ (.inl (by have := h1.2; omega))
theorem ok_opsF (L : List Nat) : okO 128 0 (L.filter fun x => decide (x < 128)).length (opsF L 128) := ok_range L _ 128 128 0 (.inr ⟨rfl, Nat.le_refl _⟩)
theorem opsF_mem {L : List Nat} {x : Nat × Nat} (h : x ∈ opsF L 128) : x.1 ∈ L := by
  unfold opsF at h
  obtain ⟨v, _, h2⟩ := List.mem_flatMap.1 h
  have := rowS_mem h2
  rw [this.1]; exact this.2
theorem opsF_length (L : List Nat) (h : ∀ x ∈ L, x ≤ 1114111) : (L.filter fun x => decide (x < 128)).length + (opsF L 128).length = L.length := by
  have h1 := bld_length (opsF L 128) (L.filter fun x => decide (x < 128)) (by simp)
  rw [bld_opsF h] at h1
  exact h1.symm
end Go.Proofs.Ytmhpjoadfgplgaa
