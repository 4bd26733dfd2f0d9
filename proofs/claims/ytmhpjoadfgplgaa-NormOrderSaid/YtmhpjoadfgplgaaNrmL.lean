/-
The order of classes: a row of code points put in order. Conditions: none.
-/
import Derived.Test.YtmhpjoadfgplgaaBas
set_option linter.unusedSimpArgs false
set_option linter.unusedVariables false
set_option linter.unusedSectionVars false
namespace Go.Proofs.Ytmhpjoadfgplgaa
section
variable (cc : Int → Nat)

/-- A code point put ahead of a row, behind those that it must not stand before. -/
def ins (x : Int) : List Int → List Int
  | [] => [x]
  | y :: l => if 0 < cc y ∧ cc y < cc x then y :: ins x l else x :: y :: l
/-- The order of classes. -/
def canon : List Int → List Int
  | [] => []
  | x :: l => ins cc x (canon l)
def okHd (x : Int) : List Int → Prop
  | [] => True
  | y :: _ => ¬(0 < cc y ∧ cc y < cc x)
/-- Classes fall at starters alone. -/
def Good : List Int → Prop
  | [] => True
  | x :: l => okHd cc x l ∧ Good l

theorem ins_length (x : Int) (l : List Int) : (ins cc x l).length = l.length + 1 := by
  induction l with
  | nil => rfl
  | cons y l ih => simp only [ins]; split <;> simp [ih]
theorem canon_length (l : List Int) : (canon cc l).length = l.length := by
  induction l with
  | nil => rfl
  | cons x l ih => simp [canon, ins_length, ih]
theorem ins_perm (x : Int) (l : List Int) : (ins cc x l).Perm (x :: l) := by
  induction l with
  | nil => exact .refl _
  | cons y l ih =>
    simp only [ins]; split
    · exact (ih.cons y).trans (.swap _ _ _)
    · exact .refl _
theorem canon_perm (l : List Int) : (canon cc l).Perm l := by
  induction l with
  | nil => exact .refl _
  | cons x l ih => exact (ins_perm cc x _).trans (ih.cons x)
theorem canon_mem {l : List Int} {x : Int} : x ∈ canon cc l ↔ x ∈ l := (canon_perm cc l).mem_iff

theorem ins_ok {x : Int} {l : List Int} (h : okHd cc x l) : ins cc x l = x :: l := by
  cases l with
  | nil => rfl
  | cons y l => simp only [ins]; rw [if_neg h]
theorem okHd_ins {y x : Int} {l : List Int} (h : okHd cc y l) (hx : ¬(0 < cc x ∧ cc x < cc y)) : okHd cc y (ins cc x l) := by
  cases l with
  | nil => exact hx
  | cons z l =>
    simp only [ins]; split
    · exact h
    · exact hx
theorem ins_good {x : Int} {l : List Int} (h : Good cc l) : Good cc (ins cc x l) := by
  induction l with
  | nil => exact ⟨trivial, trivial⟩
  | cons y l ih =>
    simp only [ins]; split
    · rename_i hc
      exact ⟨okHd_ins cc h.1 (by omega), ih h.2⟩
    · rename_i hc; exact ⟨hc, h⟩
theorem canon_good (l : List Int) : Good cc (canon cc l) := by
  induction l with
  | nil => trivial
  | cons x l ih => exact ins_good cc ih
theorem canon_of_good {l : List Int} (h : Good cc l) : canon cc l = l := by
  induction l with
  | nil => rfl
  | cons x l ih => simp only [canon]; rw [ih h.2, ins_ok cc h.1]
theorem canon_idem (l : List Int) : canon cc (canon cc l) = canon cc l := canon_of_good cc (canon_good cc l)

theorem canon_right {a b b' : List Int} (h : canon cc b = canon cc b') : canon cc (a ++ b) = canon cc (a ++ b') := by
  induction a with
  | nil => exact h
  | cons x a ih => simp only [List.cons_append, canon, ih]
/-- Marks of unlike classes may be put in in either order. -/
theorem ins_swap {x y : Int} (hx : 0 < cc x) (hy : cc x < cc y) (l : List Int) : ins cc x (ins cc y l) = ins cc y (ins cc x l) := by
  induction l with
  | nil =>
    simp only [ins]
    rw [if_neg (by omega), if_pos (by omega)]
  | cons z l ih =>
    simp only [ins]
    by_cases h1 : 0 < cc z ∧ cc z < cc x
    · rw [if_pos h1, if_pos (by omega)]
      simp only [ins]
      rw [if_pos h1, if_pos (by omega), ih]
    · by_cases h2 : 0 < cc z ∧ cc z < cc y
      · rw [if_pos h2, if_neg h1]
        simp only [ins]
        rw [if_neg h1, if_pos (by omega)]
        rw [if_pos h2]
      · rw [if_neg h2, if_neg h1]
        simp only [ins]
        rw [if_neg (by omega), if_pos (by omega), if_neg h2]
theorem canon_swap {x y : Int} (hx : 0 < cc x) (hy : 0 < cc y) (hne : cc x ≠ cc y) (a b : List Int) : canon cc (a ++ x :: y :: b) = canon cc (a ++ y :: x :: b) := by
  refine canon_right cc ?_
  simp only [canon]
  rcases Nat.lt_or_gt_of_ne hne with h | h
  · exact ins_swap cc hx h _
  · exact (ins_swap cc hy h _).symm
theorem canon_ins (x : Int) (l b : List Int) : canon cc (ins cc x l ++ b) = canon cc (x :: l ++ b) := by
  induction l with
  | nil => rfl
  | cons y l ih =>
    simp only [ins]; split
    · rename_i h
      have := canon_swap cc (x := y) (y := x) h.1 (by omega) (by omega) [] (l ++ b)
      simp only [List.nil_append] at this
      rw [List.cons_append, List.cons_append, List.cons_append, ← this]
      exact canon_right cc (a := [y]) ih
    · rfl
theorem canon_left (a b : List Int) : canon cc (canon cc a ++ b) = canon cc (a ++ b) := by
  induction a with
  | nil => rfl
  | cons x a ih =>
    simp only [canon]
    rw [canon_ins]
    exact canon_right cc (a := [x]) ih
theorem canon_app {a a' b b' : List Int} (h : canon cc a = canon cc a') (h' : canon cc b = canon cc b') : canon cc (a ++ b) = canon cc (a' ++ b') := by
  rw [canon_right cc h', ← canon_left, h, canon_left]
theorem canon_mid {a a' : List Int} (x b : List Int) (h : canon cc a = canon cc a') : canon cc (x ++ a ++ b) = canon cc (x ++ a' ++ b) :=
  canon_app cc (canon_right cc h) rfl
/-- A mark behind lesser ones may as well stand ahead of them. -/
theorem canon_front {x : Int} (a l b : List Int) (h : ∀ y ∈ l, 0 < cc y ∧ cc y < cc x) : canon cc (a ++ l ++ x :: b) = canon cc (a ++ x :: l ++ b) := by
  induction l generalizing a with
  | nil => simp
  | cons y l ih =>
    have h1 := h y (by simp)
    have h2 := ih (a ++ [y]) fun z hz => h z (by simp [hz])
    have h3 := canon_swap cc (x := y) (y := x) h1.1 (by omega) (by omega) a (l ++ b)
    simp only [List.append_assoc, List.cons_append, List.nil_append] at h2 h3 ⊢
    rw [h2, h3]
/-- Two rows of marks change places, if those of the first are all greater. -/
theorem canon_turn (a l m b : List Int) (h : ∀ x ∈ l, ∀ y ∈ m, 0 < cc y ∧ cc y < cc x) : canon cc (a ++ l ++ m ++ b) = canon cc (a ++ m ++ l ++ b) := by
  induction l generalizing a with
  | nil => simp
  | cons x l ih =>
    have h1 := ih (a ++ [x]) fun z hz => h z (by simp [hz])
    have h2 := canon_front cc (x := x) a m (l ++ b) (h x (by simp))
    simp only [List.append_assoc, List.cons_append, List.nil_append] at h1 h2 ⊢
    rw [h1, h2]

theorem Good.left {a b : List Int} (h : Good cc (a ++ b)) : Good cc a := by
  induction a with
  | nil => trivial
  | cons x a ih =>
    refine ⟨?_, ih h.2⟩
    cases a with
    | nil => trivial
    | cons y a => exact h.1
theorem Good.right {a b : List Int} (h : Good cc (a ++ b)) : Good cc b := by
  induction a with
  | nil => exact h
  | cons x a ih => exact ih h.2
theorem Good.starter {a b : List Int} {x : Int} (hx : cc x = 0) (ha : Good cc a) (hb : Good cc (x :: b)) : Good cc (a ++ x :: b) := by
  induction a with
  | nil => exact hb
  | cons y a ih =>
    refine ⟨?_, ih ha.2⟩
    cases a with
    | nil => show ¬(0 < cc x ∧ cc x < cc y); omega
    | cons z a => exact ha.1
/-- Ahead of a starter a row is put in order by itself. -/
theorem canon_starter {x : Int} (hx : cc x = 0) (a b : List Int) : canon cc (a ++ x :: b) = canon cc a ++ canon cc (x :: b) := by
  rw [← canon_left, ← canon_right cc (canon_idem cc (x :: b))]
  refine canon_of_good cc ?_
  have hh : canon cc (x :: b) = x :: canon cc b := by
    simp only [canon]
    refine ins_ok cc ?_
    cases canon cc b with
    | nil => trivial
    | cons y l => simp only [okHd]; omega
  rw [hh]
  exact Good.starter cc hx (canon_good cc a) (hh ▸ canon_good cc (x :: b))
theorem canon_cons {x : Int} (hx : cc x = 0) (b : List Int) : canon cc (x :: b) = x :: canon cc b := by
  simp only [canon]
  refine ins_ok cc ?_
  cases canon cc b with
  | nil => trivial
  | cons y l => simp only [okHd]; omega

/-- Classes never fall. -/
def Asc : List Int → Prop
  | [] => True
  | x :: l => (∀ y ∈ l, cc x ≤ cc y) ∧ Asc l
theorem Asc.good {l : List Int} (h : Asc cc l) : Good cc l := by
  induction l with
  | nil => trivial
  | cons x l ih =>
    refine ⟨?_, ih h.2⟩
    cases l with
    | nil => trivial
    | cons y l =>
      have := h.1 y (by simp)
      simp only [okHd]; omega
theorem Good.asc {l : List Int} (hp : ∀ x ∈ l, 0 < cc x) (h : Good cc l) : Asc cc l := by
  induction l with
  | nil => trivial
  | cons x l ih =>
    have ha := ih (fun y hy => hp y (by simp [hy])) h.2
    refine ⟨?_, ha⟩
    cases l with
    | nil => simp
    | cons y l =>
      have h1 := hp y (by simp)
      have h2 := h.1
      simp only [okHd] at h2
      have h3 : cc x ≤ cc y := by omega
      intro z hz
      rcases List.mem_cons.1 hz with rfl | hz
      · exact h3
      · exact Nat.le_trans h3 (ha.1 z hz)
theorem canon_asc {l : List Int} (hp : ∀ x ∈ l, 0 < cc x) : Asc cc (canon cc l) :=
  Good.asc cc (fun x hx => hp x ((canon_mem cc).1 hx)) (canon_good cc l)
theorem asc_append {a b : List Int} : Asc cc (a ++ b) ↔ Asc cc a ∧ Asc cc b ∧ ∀ x ∈ a, ∀ y ∈ b, cc x ≤ cc y := by
  induction a with
  | nil => simp [Asc]
  | cons x a ih =>
    simp only [List.cons_append, Asc, ih, List.mem_append, List.mem_cons]
    constructor
    · rintro ⟨h1, h2, h3, h4⟩
      refine ⟨⟨fun y hy => h1 y (.inl hy), h2⟩, h3, ?_⟩
      rintro z (rfl | hz) y hy
      · exact h1 y (.inr hy)
      · exact h4 z hz y hy
    · rintro ⟨⟨h1, h2⟩, h3, h4⟩
      refine ⟨?_, h2, h3, fun z hz => h4 z (.inr hz)⟩
      rintro y (hy | hy)
      · exact h1 y hy
      · exact h4 x (.inl rfl) y hy
theorem canon_of_asc {l : List Int} (h : Asc cc l) : canon cc l = l := canon_of_good cc (Asc.good cc h)
theorem asc_get {l : List Int} (h : Asc cc l) {i j : Nat} (hij : i ≤ j) (hj : j < l.length) : cc (l[i]'(by omega)) ≤ cc l[j] := by
  rcases Nat.lt_or_eq_of_le hij with hlt | rfl
  · have hs : l = l.take j ++ l.drop j := (List.take_append_drop j l).symm
    rw [hs, asc_append] at h
    refine h.2.2 _ ?_ _ ?_
    · rw [List.mem_take_iff_getElem]; exact ⟨i, by omega, rfl⟩
    · rw [List.mem_drop_iff_getElem]; exact ⟨0, by omega, by simp⟩
  · exact Nat.le_refl _
/-- How often a class falls. -/
def falls : List Int → Nat
  | [] => 0
  | x :: l => l.countP (fun y => decide (cc y < cc x)) + falls l
theorem falls_swap {x y : Int} (h : cc y < cc x) (a b : List Int) : falls cc (a ++ x :: y :: b) = falls cc (a ++ y :: x :: b) + 1 := by
  induction a with
  | nil =>
    simp only [List.nil_append, falls, List.countP_cons, h, decide_true, if_true]
    rw [show decide (cc x < cc y) = false from by simp; omega]
    simp only [Bool.false_eq_true, if_false]; omega
  | cons z a ih =>
    simp only [List.cons_append, falls, ih]
    have : (a ++ x :: y :: b).countP (fun w => decide (cc w < cc z)) = (a ++ y :: x :: b).countP (fun w => decide (cc w < cc z)) := List.Perm.countP_eq _ (List.Perm.append_left a (.swap _ _ _))
    omega
end
end Go.Proofs.Ytmhpjoadfgplgaa
