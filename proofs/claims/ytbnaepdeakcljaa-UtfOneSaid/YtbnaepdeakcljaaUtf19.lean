/-
Where codes begin in bytes of which one is another one: ahead of it, and behind the next three, as they did. Conditions: none.
-/
import Derived.Test.YtbnaepdeakcljaaUtf6
set_option linter.unusedSimpArgs false
set_option linter.unusedVariables false
set_option linter.unusedSectionVars false
namespace Go.Proofs.Ytbnaepdeakcljaa
open Go Go.Ab

/-- Where the codes begin, one behind the other. -/
def posB (b : List Nat) : Nat → Nat
  | 0 => 0
  | j + 1 => posB b j + (if posB b j < b.length then (nx (b.drop (posB b j))).2.1 else 0)
def Bd (b : List Nat) (i : Nat) : Prop := ∃ j, posB b j = i
theorem bd_zero (b : List Nat) : Bd b 0 := ⟨0, rfl⟩
theorem bd_next {b : List Nat} {i : Nat} (h : Bd b i) (hi : i < b.length) : Bd b (i + (nx (b.drop i)).2.1) := by
  obtain ⟨j, rfl⟩ := h
  exact ⟨j + 1, by rw [posB, if_pos hi]⟩
theorem pos_mono (b : List Nat) : ∀ (d j : Nat), posB b j ≤ posB b (j + d)
  | 0, j => Nat.le_refl _
  | d + 1, j => Nat.le_trans (pos_mono b d j) (by rw [show j + (d + 1) = (j + d) + 1 by omega, posB]; omega)
theorem pos_le (b : List Nat) : ∀ j, posB b j ≤ b.length
  | 0 => Nat.zero_le _
  | j + 1 => by
    rw [posB]
    split
    · rename_i h; exact (nx_drop h).2.1
    · have := pos_le b j; omega
theorem bd_le {b : List Nat} {i : Nat} (h : Bd b i) : i ≤ b.length := by obtain ⟨j, rfl⟩ := h; exact pos_le b j
/-- Between a code's first byte and its end none begins. -/
theorem bd_gap {b : List Nat} {i q : Nat} (h : Bd b i) (hq : Bd b q) (hlt : i < q) : i + (nx (b.drop i)).2.1 ≤ q := by
  obtain ⟨j, rfl⟩ := h
  obtain ⟨k, rfl⟩ := hq
  have hjk : j < k := Nat.lt_of_not_le fun hkj => by
    have := pos_mono b (j - k) k
    rw [show k + (j - k) = j by omega] at this
    omega
  have hl := pos_le b k
  have := pos_mono b (k - (j + 1)) (j + 1)
  rw [show j + 1 + (k - (j + 1)) = k by omega, posB, if_pos (by omega)] at this
  exact this

/-- A byte that goes on. -/
def contB (x : Nat) : Prop := 128 ≤ x ∧ x ≤ 191
theorem goOn_conts : ∀ (n lo hi r k : Nat) (t : List Nat), 128 ≤ lo → hi ≤ 191 → ∀ j, k ≤ j → j < (goOn n lo hi r k t).2.1 → ∃ x, t[j - k]? = some x ∧ contB x
  | 0, lo, hi, r, k, t, _, _, j, hj, h => by simp only [goOn] at h; omega
  | n + 1, lo, hi, r, k, [], _, _, j, hj, h => by simp only [goOn] at h; omega
  | n + 1, lo, hi, r, k, x :: t, hl, hh, j, hj, h => by
    simp only [goOn] at h
    split at h
    · have h' : j < k := h
      omega
    · rename_i hx
      rcases Nat.eq_or_lt_of_le hj with rfl | hlt
      · exact ⟨x, by simp, by constructor <;> omega⟩
      · obtain ⟨y, h1, h2⟩ := goOn_conts n 128 191 _ (k + 1) t (by omega) (by omega) j hlt h
        refine ⟨y, ?_, h2⟩
        rw [show j - k = (j - (k + 1)) + 1 by omega, List.getElem?_cons_succ]
        exact h1
theorem nx_conts (l : List Nat) (j : Nat) (h0 : 1 ≤ j) (h : j < (nx l).2.1) : ∃ x, l[j]? = some x ∧ contB x := by
  cases l with
  | nil => simp only [nx] at h; omega
  | cons c t =>
    simp only [nx] at h
    split at h
    · rename_i hc
      have hf := first_facts hc
      obtain ⟨x, h1, h2⟩ := goOn_conts _ _ _ _ 1 t hf.2.2.1 hf.1 j h0 h
      exact ⟨x, by rw [show j = (j - 1) + 1 by omega, List.getElem?_cons_succ]; exact h1, h2⟩
    · have h' : j < 1 := h
      omega
theorem cont_lead {c : Nat} (h : contB c) : leadB c = false := lead_f (by unfold contB at h; omega)

theorem bd_greatest (b : List Nat) (q : Nat) : ∃ i, i ≤ q ∧ Bd b i ∧ ∀ j, j ≤ q → Bd b j → j ≤ i := exists_greatest ⟨0, Nat.zero_le _, bd_zero b⟩
/-- A code begins where a byte does not go on, and at the end. -/
theorem bd_stop {b : List Nat} {q : Nat} (hq : q ≤ b.length) (h : ∀ x, b[q]? = some x → ¬ contB x) : Bd b q := by
  obtain ⟨i, h1, h2, h3⟩ := bd_greatest b q
  rcases Nat.eq_or_lt_of_le h1 with rfl | hlt
  · exact h2
  · have hil : i < b.length := by omega
    have hn := nx_drop hil
    have hgt : q < i + (nx (b.drop i)).2.1 := Nat.lt_of_not_le fun hle => by
      have := h3 _ hle (bd_next h2 hil)
      omega
    obtain ⟨x, h4, h5⟩ := nx_conts (b.drop i) (q - i) (by omega) (by omega)
    rw [List.getElem?_drop, show i + (q - i) = q by omega] at h4
    exact absurd h5 (h x h4)
/-- And behind three that go on. -/
theorem bd_three {b : List Nat} {q : Nat} (hq : q + 3 ≤ b.length) (h : ∀ d, d < 3 → ∃ x, b[q + d]? = some x ∧ contB x) : Bd b (q + 3) := by
  obtain ⟨i, h1, h2, h3⟩ := bd_greatest b (q + 3)
  rcases Nat.eq_or_lt_of_le h1 with rfl | hlt
  · exact h2
  · have hil : i < b.length := by omega
    have hn := nx_drop hil
    have hgt : q + 3 < i + (nx (b.drop i)).2.1 := Nat.lt_of_not_le fun hle => by
      have := h3 _ hle (bd_next h2 hil)
      omega
    obtain ⟨x, h4, h5⟩ := h (i - q) (by omega)
    rw [show q + (i - q) = i by omega] at h4
    have hx : b.drop i = x :: b.drop (i + 1) := by
      rw [List.drop_eq_getElem_cons hil]
      rw [List.getElem?_eq_getElem hil, Option.some.injEq] at h4
      rw [h4]
    have hone : (nx (b.drop i)).2.1 = 1 := by
      rw [hx]
      simp only [nx, cont_lead h5, Bool.false_eq_true, if_false]
    omega

/-! ### One byte is another one -/

theorem take4_nx {l l' : List Nat} (h : l.take 4 = l'.take 4) (hl : l ≠ []) (hl' : l' ≠ []) : nx l = nx l' := by
  have h4 : ∀ q : List Nat, q ≠ [] → (nx q).2.1 ≤ 4 := fun q hq => by
    cases q with
    | nil => exact absurd rfl hq
    | cons c t => exact (nx_drop (b := c :: t) (i := 0) (by simp)).2.2
  rw [← nx_take (h4 l hl), h, nx_take (h4 l' hl')]

variable {b : List Nat} {k c : Nat}
theorem set_drop_ahead {i : Nat} (h : i + 4 ≤ k) : ((b.set k c).drop i).take 4 = (b.drop i).take 4 := by
  apply List.ext_getElem?
  intro j
  rw [List.getElem?_take, List.getElem?_take]
  split
  · rw [List.getElem?_drop, List.getElem?_drop, List.getElem?_set_ne (by omega)]
  · rfl
theorem set_drop_behind {i : Nat} (h : k < i) : (b.set k c).drop i = b.drop i := by
  apply List.ext_getElem?
  intro j
  rw [List.getElem?_drop, List.getElem?_drop, List.getElem?_set_ne (by omega)]
theorem nx_ahead {i : Nat} (hi : i < b.length) (h : i + 4 ≤ k) : nx ((b.set k c).drop i) = nx (b.drop i) :=
  take4_nx (set_drop_ahead h) (by intro e; have := congrArg List.length e; simp at this; omega) (by intro e; have := congrArg List.length e; simp at this; omega)
theorem bd_ahead : ∀ (j : Nat), posB (b.set k c) j + 4 ≤ k → Bd b (posB (b.set k c) j)
  | 0, _ => bd_zero b
  | j + 1, h => by
    rw [posB] at h ⊢
    split at h
    · rename_i hlt
      rw [if_pos hlt]
      rw [List.length_set] at hlt
      have hn := nx_ahead (c := c) hlt (k := k) (by have := nx_drop (b := b.set k c) (i := posB (b.set k c) j) (by simpa using hlt); omega)
      rw [hn] at h ⊢
      exact bd_next (bd_ahead j (by omega)) hlt
    · rename_i hlt
      rw [if_neg hlt]
      exact bd_ahead j h
/-- From where on codes begin alike. -/
theorem bd_both (hk : k < b.length) : ∃ q, k < q ∧ q ≤ k + 4 ∧ q ≤ b.length ∧ Bd b q ∧ Bd (b.set k c) q := by
  have stop : ∀ q, k < q → q ≤ b.length → (∀ x, b[q]? = some x → ¬ contB x) → Bd b q ∧ Bd (b.set k c) q := fun q h1 h2 h3 =>
    ⟨bd_stop h2 h3, bd_stop (by simpa using h2) fun x hx => h3 x (by rw [List.getElem?_set_ne (by omega)] at hx; exact hx)⟩
  by_cases c1 : ∀ x, b[k + 1]? = some x → ¬ contB x
  · exact ⟨k + 1, by omega, by omega, by omega, stop _ (by omega) (by omega) c1⟩
  by_cases c2 : ∀ x, b[k + 2]? = some x → ¬ contB x
  · have hl : k + 1 < b.length := Nat.lt_of_not_le fun h => c1 fun x hx => by rw [List.getElem?_eq_none h] at hx; cases hx
    exact ⟨k + 2, by omega, by omega, by omega, stop _ (by omega) (by omega) c2⟩
  by_cases c3 : ∀ x, b[k + 3]? = some x → ¬ contB x
  · have hl : k + 2 < b.length := Nat.lt_of_not_le fun h => c2 fun x hx => by rw [List.getElem?_eq_none h] at hx; cases hx
    exact ⟨k + 3, by omega, by omega, by omega, stop _ (by omega) (by omega) c3⟩
  have hl : k + 3 < b.length := Nat.lt_of_not_le fun h => c3 fun x hx => by rw [List.getElem?_eq_none h] at hx; cases hx
  have hc : ∀ d, d < 3 → ∃ x, b[k + 1 + d]? = some x ∧ contB x := fun d hd => by
    simp only [Classical.not_forall, Classical.not_not] at c1 c2 c3
    rcases (show d = 0 ∨ d = 1 ∨ d = 2 by omega) with rfl | rfl | rfl
    · obtain ⟨x, h1, h2⟩ := c1; exact ⟨x, h1, h2⟩
    · obtain ⟨x, h1, h2⟩ := c2; exact ⟨x, h1, h2⟩
    · obtain ⟨x, h1, h2⟩ := c3; exact ⟨x, h1, h2⟩
  refine ⟨k + 4, by omega, by omega, by omega, bd_three (q := k + 1) (by omega) hc, bd_three (b := b.set k c) (q := k + 1) (by simp; omega) fun d hd => ?_⟩
  obtain ⟨x, h1, h2⟩ := hc d hd
  exact ⟨x, by rw [List.getElem?_set_ne (by omega)]; exact h1, h2⟩
theorem bd_behind {q : Nat} (hq : k < q) (h1 : Bd b q) (h2 : Bd (b.set k c) q) : ∀ (j : Nat), q ≤ posB (b.set k c) j → Bd b (posB (b.set k c) j)
  | 0, h => by simp only [posB] at h; omega
  | j + 1, h => by
    by_cases hge : q ≤ posB (b.set k c) j
    · have ih := bd_behind hq h1 h2 j hge
      rw [posB] at h ⊢
      split at h
      · rename_i hlt
        rw [if_pos hlt, set_drop_behind (by omega)]
        rw [List.length_set] at hlt
        exact bd_next ih hlt
      · rename_i hlt
        rw [if_neg hlt]; exact ih
    · have hgap := bd_gap ⟨j, rfl⟩ h2 (Nat.lt_of_not_le hge)
      have hp := pos_le (b.set k c) (j + 1)
      have hlt : posB (b.set k c) j < (b.set k c).length := by
        have := bd_le h2
        omega
      rw [posB, if_pos hlt] at h ⊢
      rw [Nat.le_antisymm hgap h]
      exact h1

/-! ### The codes -/

def codeAt (b : List Nat) (i : Nat) : Nat × Nat × Nat := ((nx (b.drop i)).1, i, i + (nx (b.drop i)).2.1)
theorem cut_mem (b : List Nat) : ∀ (n i : Nat), b.length - i ≤ n → i ≤ b.length → Bd b i → ∀ x ∈ cut i (b.drop i), ∃ q, i ≤ q ∧ q < b.length ∧ Bd b q ∧ trip x = codeAt b q
  | 0, i, hn, hi, _, x, hx => by
    rw [List.drop_eq_nil_of_le (by omega), cut_nil] at hx; cases hx
  | n + 1, i, hn, hi, hb, x, hx => by
    rcases Nat.eq_or_lt_of_le hi with rfl | hlt
    · rw [List.drop_length, cut_nil] at hx; cases hx
    · have hnx := nx_drop hlt
      rw [cut_drop hlt] at hx
      rcases List.mem_cons.1 hx with rfl | hx
      · exact ⟨i, Nat.le_refl _, hlt, hb, rfl⟩
      · obtain ⟨q, h1, h2, h3, h4⟩ := cut_mem b n _ (by omega) hnx.2.1 (bd_next hb hlt) x hx
        exact ⟨q, by omega, h2, h3, h4⟩
theorem cut_has (b : List Nat) : ∀ (j : Nat), posB b j < b.length → (∃ x ∈ cut 0 b, trip x = codeAt b (posB b j)) ∧ ∀ y ∈ cut (posB b j) (b.drop (posB b j)), y ∈ cut 0 b
  | 0, h => by
    have e : b.drop 0 = b := rfl
    refine ⟨⟨((nx (b.drop 0)).1, 0, 0 + (nx (b.drop 0)).2.1, (nx (b.drop 0)).2.2), ?_, rfl⟩, fun y hy => by rwa [posB, e] at hy⟩
    have := cut_drop (b := b) (i := 0) (by simpa [posB] using h)
    rw [e] at this
    rw [this, e]; exact List.mem_cons_self ..
  | j + 1, h => by
    have hlt : posB b j < b.length := by have := pos_mono b 1 j; omega
    have ih := (cut_has b j hlt).2
    have hp : posB b (j + 1) = posB b j + (nx (b.drop (posB b j))).2.1 := by rw [posB, if_pos hlt]
    have hall : ∀ y ∈ cut (posB b (j + 1)) (b.drop (posB b (j + 1))), y ∈ cut 0 b := fun y hy => ih y (by
      rw [cut_drop hlt, ← hp]; exact List.mem_cons_of_mem _ hy)
    refine ⟨⟨((nx (b.drop (posB b (j + 1)))).1, posB b (j + 1), posB b (j + 1) + (nx (b.drop (posB b (j + 1)))).2.1, (nx (b.drop (posB b (j + 1)))).2.2), hall _ ?_, rfl⟩, hall⟩
    rw [cut_drop h]; exact List.mem_cons_self ..
/-- No two codes begin at one place. -/
theorem cut_apart (b : List Nat) : ∀ (n i : Nat), b.length - i ≤ n → i ≤ b.length → (∀ x ∈ cut i (b.drop i), i ≤ x.2.1) ∧ (cut i (b.drop i)).Pairwise (fun x y => x.2.1 < y.2.1)
  | 0, i, hn, hi => by rw [List.drop_eq_nil_of_le (by omega), cut_nil]; simp
  | n + 1, i, hn, hi => by
    rcases Nat.eq_or_lt_of_le hi with rfl | hlt
    · rw [List.drop_length, cut_nil]; simp
    · have hnx := nx_drop hlt
      obtain ⟨h1, h2⟩ := cut_apart b n (i + (nx (b.drop i)).2.1) (by omega) hnx.2.1
      rw [cut_drop hlt]
      refine ⟨fun x hx => ?_, List.pairwise_cons.2 ⟨fun x hx => ?_, h2⟩⟩
      · rcases List.mem_cons.1 hx with rfl | hx
        · exact Nat.le_refl _
        · have := h1 x hx; omega
      · have := h1 x hx
        show i < x.2.1
        omega

def trips (b : List Nat) : List (Nat × Nat × Nat) := (cut 0 b).map trip
theorem trips_count {b : List Nat} {x : Nat × Nat × Nat} (h : x ∈ trips b) : (trips b).countP (fun y => y == x) = 1 := by
  have hp : (trips b).Pairwise (fun x y => x.2.1 < y.2.1) := by
    have := (cut_apart b b.length 0 (by omega) (Nat.zero_le _)).2
    rw [List.drop_zero] at this
    exact List.pairwise_map.2 (this.imp fun h => h)
  generalize trips b = l at h hp
  induction l with
  | nil => cases h
  | cons y l ih =>
    rw [List.pairwise_cons] at hp
    rw [List.countP_cons]
    rcases List.mem_cons.1 h with rfl | hm
    · have : l.countP (fun y => y == x) = 0 := by
        rw [List.countP_eq_zero]
        intro z hz
        have := hp.1 z hz
        simp only [beq_iff_eq]
        intro e
        rw [e] at this
        omega
      rw [this]; simp
    · have hne : (y == x) = false := by
        have := hp.1 x hm
        rw [beq_eq_false_iff_ne]
        intro e
        rw [e] at this
        omega
      rw [ih hm hp.2, hne]; simp

/-- THE LAW: a code of the other bytes that ends ahead, or begins behind, is one of these. -/
theorem one_code (hk : k < b.length) {x : Nat × Nat × Nat} (hx : x ∈ trips (b.set k c)) (h : (x.2.2 : Int) ≤ (k : Int) - 3 ∨ (x.2.1 : Int) > (k : Int) + 3) : (trips b).countP (fun y => y == x) = 1 := by
  refine trips_count ?_
  obtain ⟨y, hy, rfl⟩ := List.mem_map.1 hx
  obtain ⟨i, _, hi, ⟨j, hj⟩, he⟩ := cut_mem (b.set k c) (b.set k c).length 0 (by omega) (Nat.zero_le _) (bd_zero _) y (by simpa using hy)
  rw [List.length_set] at hi
  have hnx := nx_drop (b := b.set k c) (i := i) (by simpa using hi)
  rw [he] at h ⊢
  have fin : Bd b i → nx ((b.set k c).drop i) = nx (b.drop i) → codeAt (b.set k c) i ∈ trips b := fun hb hn => by
    obtain ⟨m, hm⟩ := hb
    obtain ⟨z, hz, hze⟩ := (cut_has b m (by omega)).1
    refine List.mem_map.2 ⟨z, hz, ?_⟩
    rw [hze, hm]
    unfold codeAt
    rw [hn]
  rcases h with h | h
  · have h4 : i + 4 ≤ k := by simp only [codeAt] at h; omega
    exact fin (by rw [← hj]; exact bd_ahead j (by omega)) (nx_ahead hi h4)
  · have h4 : k + 3 < i := by simp only [codeAt] at h; omega
    obtain ⟨q, q1, q2, q3, q4, q5⟩ := bd_both (c := c) hk
    exact fin (by rw [← hj]; exact bd_behind q1 q4 q5 j (by omega)) (by rw [set_drop_behind (by omega)])
end Go.Proofs.Ytbnaepdeakcljaa
