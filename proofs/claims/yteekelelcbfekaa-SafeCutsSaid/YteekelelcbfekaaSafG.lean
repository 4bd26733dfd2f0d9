/-
The bytes of what is shown follow one another: in plain terms. Conditions: none.
-/
import Derived.Test.YteekelelcbfekaaSafE
set_option linter.unusedSimpArgs false
set_option linter.unusedVariables false
set_option linter.unusedSectionVars false
namespace Go.Proofs.Yteekelelcbfekaa
open Go Go.Ab

/-! ### Rows of codes, in parts -/

theorem rowN_take (b : List Nat) : rowN (b.take (3 * rowN b)) = rowN b := by
  have key : ∀ (f : Nat) (b : List Nat), b.length ≤ f → rowN (b.take (3 * rowN b)) = rowN b := by
    intro f
    induction f with
    | zero => intro b h; have : b = [] := List.eq_nil_of_length_eq_zero (by omega)
              subst this; simp [rowN, rowF]
    | succ f ih =>
      intro b h
      cases hc : isC b
      · rw [rowN_plain hc]; rfl
      · have h3 := isC_len hc
        have := ih (b.drop 3) (by simp only [List.length_drop]; omega)
        have hn := rowN_code hc
        have ht : isC (b.take (3 * rowN b)) = true := by rw [isC_take (by omega)]; exact hc
        rw [rowN_code ht, List.drop_take, hn, show 3 * (1 + rowN (b.drop 3)) - 3 = 3 * rowN (b.drop 3) by omega, this]
  exact key _ _ (Nat.le_refl _)

/-- Codes alone. -/
def AllC (q : List Nat) : Prop := q.length = 3 * rowN q
theorem AllC.drop {q : List Nat} (h : AllC q) (hc : isC q = true) : AllC (q.drop 3) := by
  unfold AllC at *
  have h3 := isC_len hc
  rw [rowN_code hc] at h
  rw [List.length_drop]; omega
theorem AllC.code {q : List Nat} (h : AllC q) (hp : 0 < q.length) : isC q = true := by
  unfold AllC at h
  exact rowN_pos.1 (by omega)
theorem dec_drop : ∀ (k : Nat) (q : List Nat), AllC q → 3 * k ≤ q.length → decP (q.drop (3 * k)) = (decP q).drop k ∧ AllC (q.drop (3 * k))
  | 0, q, h, _ => ⟨rfl, h⟩
  | k + 1, q, h, hk => by
    have hc := h.code (by omega)
    have ih := dec_drop k (q.drop 3) (h.drop hc) (by rw [List.length_drop]; omega)
    rw [List.drop_drop, show 3 + 3 * k = 3 * (k + 1) by omega] at ih
    rw [decP_code hc, List.drop_succ_cons]
    exact ih
theorem dec_take : ∀ (m : Nat) (q : List Nat), AllC q → 3 * m ≤ q.length → decP (q.take (3 * m)) = (decP q).take m
  | 0, q, _, _ => rfl
  | m + 1, q, h, hk => by
    have hc := h.code (by omega)
    have ih := dec_take m (q.drop 3) (h.drop hc) (by rw [List.length_drop]; omega)
    have ht : isC (q.take (3 * (m + 1))) = true := by rw [isC_take (by omega)]; exact hc
    have hv : codeV (q.take (3 * (m + 1))) = codeV q := by
      match q, hc with
      | a :: x :: y :: t, _ => rw [show 3 * (m + 1) = 3 * m + 3 by omega]; rfl
    rw [decP_code ht, decP_code hc, List.take_succ_cons, List.drop_take, show 3 * (m + 1) - 3 = 3 * m by omega, ih, hv]

/-! ### A chain of codes -/

/-- What one of them says of its own bytes. -/
def okT (b : List Nat) (x : T3) : Prop :=
  (((b.take x.2.2).drop x.2.1).length = 1 → ∃ c, (b.take x.2.2).drop x.2.1 = [c] ∧ x.1 = if 127 < c then 65533 else c) ∧
  (((b.take x.2.2).drop x.2.1).length ≠ 1 → safeOf (x.1 : Int) = true ∧ Scalar x.1 ∧ decP ((b.take x.2.2).drop x.2.1) = encN x.1 ∧ ((b.take x.2.2).drop x.2.1).length = 3 * (encN x.1).length)
def chain (b : List Nat) : Nat → List T3 → Nat → Prop
  | i, [], j => i = j
  | i, x :: l, j => (x.2.1 = i ∧ i < x.2.2 ∧ x.2.2 ≤ b.length ∧ okT b x) ∧ chain b x.2.2 l j
theorem chain_append {b : List Nat} : ∀ {l m : List T3} {i j k : Nat}, chain b i l j → chain b j m k → chain b i (l ++ m) k
  | [], m, i, j, k, h, h2 => by simp only [chain] at h; subst h; exact h2
  | x :: l, m, i, j, k, h, h2 => ⟨h.1, chain_append h.2 h2⟩
theorem own_one {b : List Nat} {i : Nat} (h : i < b.length) : (b.take (i + 1)).drop i = [b[i]] := by
  rw [List.take_succ_eq_append_getElem h, List.drop_append_of_le_length (by rw [List.length_take]; omega), List.drop_of_length_le (by rw [List.length_take]; omega)]; rfl
theorem chain_one {b : List Nat} {i : Nat} (h : i < b.length) : chain b i [oneT i b[i]] (i + 1) := by
  refine ⟨⟨rfl, by simp [oneT], by simp only [oneT]; omega, ?_, ?_⟩, rfl⟩
  · intro _
    exact ⟨b[i], own_one h, rfl⟩
  · intro hne
    simp only [oneT, own_one h] at hne
    exact absurd rfl hne
theorem chain_each {b : List Nat} : ∀ (m i : Nat), i + m ≤ b.length → chain b i (eachT i ((b.drop i).take m)) (i + m)
  | 0, i, _ => rfl
  | m + 1, i, h => by
    have hi : i < b.length := by omega
    have ih := chain_each (b := b) m (i + 1) (by omega)
    rw [List.drop_eq_getElem_cons hi, List.take_succ_cons, show i + (m + 1) = i + 1 + m by omega]
    exact chain_append (l := [oneT i b[i]]) (chain_one hi) ih

theorem safe_not_bad {r : Nat} (h : safeOf (r : Int) = true) : r ≠ 65533 := by
  rintro rfl
  have : safeOf ((65533 : Nat) : Int) = false := by decide +kernel
  rw [this] at h
  cases h

set_option maxRecDepth 100000 in
theorem chain_said {b q : List Nat} {i : Nat} (hq : ∀ n ∈ q, n ≤ 255) (hall : AllC q) (hsub : (b.drop i).take q.length = q) (hle : i + q.length ≤ b.length) : chain b i (saidT i q) (i + q.length) := by
  have hlen : 3 * (decP q).length = q.length := by
    have := dec_row q
    unfold AllC at hall
    rw [List.take_of_length_le (by omega)] at this
    omega
  have key : ∀ (f k : Nat), (decP q).length - k ≤ f → k ≤ (decP q).length → chain b (i + 3 * k) ((cutF f k ((decP q).drop k)).flatMap (sayT q i)) (i + q.length) := by
    intro f
    induction f with
    | zero => intro k h1 h2
              simp only [cutF, List.flatMap_nil, chain]; omega
    | succ f ih =>
      intro k h1 h2
      rcases Nat.lt_or_eq_of_le h2 with hlt | heq
      · have e := List.drop_eq_getElem_cons hlt
        have hb : ∀ n ∈ (decP q).drop k, n ≤ 255 := fun n hn => decP_le hq n (List.mem_of_mem_drop hn)
        have hn := nx_drop hlt
        have hok := fun r m (h : nx ((decP q).drop k) = (r, m, true)) => nx_ok hb h
        have hfl := nx_fail (c := (decP q)[k]) (t := (decP q).drop (k + 1))
        rw [← e] at hfl
        have hcut : cutF (f + 1) k ((decP q).drop k) = ((nx ((decP q).drop k)).1, k, k + (nx ((decP q).drop k)).2.1, (nx ((decP q).drop k)).2.2) :: cutF f (k + (nx ((decP q).drop k)).2.1) ((decP q).drop (k + (nx ((decP q).drop k)).2.1)) := by
          rw [← List.drop_drop]
          generalize (decP q).drop k = z at e
          subst e
          rfl
        rw [hcut]
        generalize nx ((decP q).drop k) = z at hn hok hfl
        obtain ⟨r, m, ok⟩ := z
        simp only at hn hok hfl ⊢
        rw [List.flatMap_cons]
        have ih2 := ih (k + m) (by omega) (by omega)
        suffices hone : chain b (i + 3 * k) (sayT q i (r, k, k + m, ok)) (i + 3 * (k + m)) from chain_append hone ih2
        have hown : (b.take (i + 3 * (k + m))).drop (i + 3 * k) = (q.drop (3 * k)).take (3 * m) := by
          rw [← hsub, List.drop_take, List.drop_take, List.take_take, List.drop_drop]
          congr 1; omega
        cases hs : safeOf (r : Int)
        · have hsay : sayT q i (r, k, k + m, ok) = eachT (i + 3 * k) ((b.drop (i + 3 * k)).take (3 * m)) := by
            simp only [sayT, hs, Bool.false_eq_true, if_false]
            congr 1
            rw [← hsub, List.drop_take, List.drop_take, List.take_take, List.drop_drop]
            congr 1; omega
          rw [hsay, show i + 3 * (k + m) = i + 3 * k + 3 * m by omega]
          exact chain_each _ _ (by omega)
        · have hsay : sayT q i (r, k, k + m, ok) = [(r, i + 3 * k, i + 3 * (k + m))] := by simp only [sayT, hs, if_true]
          rw [hsay]
          have hokt : ok = true := by
            cases ok with
            | true => rfl
            | false => exact absurd (hfl rfl).1 (safe_not_bad hs)
          subst hokt
          obtain ⟨g1, g2, g3⟩ := hok r m rfl
          have hol : ((b.take (i + 3 * (k + m))).drop (i + 3 * k)).length = 3 * m := by rw [List.length_drop, List.length_take]; omega
          refine ⟨⟨rfl, by simp only; omega, by simp only; omega, fun h => ?_, fun _ => ⟨hs, g1, ?_, ?_⟩⟩, rfl⟩
          · simp only [hol] at h; omega
          · simp only
            rw [hown, dec_take _ _ (dec_drop k q hall (by omega)).2 (by rw [List.length_drop]; omega), (dec_drop k q hall (by omega)).1, g2]
          · simp only [hol]; omega
      · subst heq
        rw [List.drop_length]
        simp only [cutF, List.flatMap_nil, chain]; omega
  exact key (decP q).length 0 (by omega) (by omega)

theorem chain_show (b : List Nat) (hb : ∀ n ∈ b, n ≤ 255) : ∀ (f i : Nat), b.length - i ≤ f → i ≤ b.length → chain b i (showT i (b.drop i)) b.length
  | 0, i, h1, h2 => by
    have : i = b.length := by omega
    subst this
    rw [List.drop_length]; rfl
  | f + 1, i, h1, h2 => by
    rcases Nat.lt_or_eq_of_le h2 with hlt | heq
    · cases hc : isC (b.drop i)
      · rw [List.drop_eq_getElem_cons hlt] at hc ⊢
        rw [showT_one hc]
        exact chain_append (l := [oneT i b[i]]) (chain_one hlt) (chain_show b hb f (i + 1) (by omega) (by omega))
      · have hp := rowN_pos.2 hc
        have hn := rowN_le (b.drop i)
        rw [List.length_drop] at hn
        have hql : ((b.drop i).take (3 * rowN (b.drop i))).length = 3 * rowN (b.drop i) := by rw [List.length_take, List.length_drop]; omega
        have ih := chain_show b hb f (i + 3 * rowN (b.drop i)) (by omega) (by omega)
        rw [showT_row hc, List.drop_drop]
        refine chain_append (chain_said (fun n hn => hb n (List.mem_of_mem_drop (List.mem_of_mem_take hn))) ?_ (by rw [hql]) (by omega)) (by rw [hql]; exact ih)
        unfold AllC
        rw [hql, rowN_take]
    · subst heq
      rw [List.drop_length]; rfl
end Go.Proofs.Yteekelelcbfekaa
