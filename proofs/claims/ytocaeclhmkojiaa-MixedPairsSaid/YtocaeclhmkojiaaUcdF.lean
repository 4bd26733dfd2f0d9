/-
What is said of the rows of the table. Conditions: none.
-/
import Derived.Test.YtocaeclhmkojiaaUcd6
set_option linter.unusedSimpArgs false
set_option linter.unusedVariables false
set_option linter.unusedSectionVars false
namespace Go.Proofs.Ytocaeclhmkojiaa
open Go Go.Ab
theorem tmod_166 {n : Int} (h : 0 ≤ n) : ∃ k : Nat, k < 166 ∧ n.tmod 166 = (k : Int) := ⟨(n.tmod 166).toNat, by rw [Int.tmod_eq_emod_of_nonneg h]; omega, by rw [Int.tmod_eq_emod_of_nonneg h]; omega⟩
theorem tab_get {k : Nat} (h : k < 166) : ∃ x : Row, tab[k]? = some x ∧ x ∈ tab ∧ (tab.map Row.cells)[k]? = some x.cells := by
  have hlt : k < tab.length := by rw [tab_len]; exact h
  exact ⟨tab[k], List.getElem?_eq_getElem hlt, List.getElem_mem hlt, by rw [List.getElem?_map, List.getElem?_eq_getElem hlt]; rfl⟩
theorem e166 : ((166 : Nat) : Int) = 166 := rfl
theorem ne166 : ((166 : Int) = 0) = False := by simp
theorem tabC_len : (tab.map Row.cells).length = 166 := by rw [List.length_map, tab_len]

def plainRow : Row := ⟨0, 0, 0, 0, 0, 0, 0, 0, 1⟩
theorem part_bounds : (t1.all (fun x => decide (x.to < 127)) && (t2.all (fun x => decide (127 ≤ x.fr) && decide (x.to < 1030)) && (t3.all (fun x => decide (1030 ≤ x.fr) && decide (x.to < 1617)) && (t4.all (fun x => decide (1617 ≤ x.fr) && decide (x.to < 8238)) && t5.all (fun x => decide (8238 ≤ x.fr)))))) = true := by kernel_rfl
theorem tab_rising : rising tab = true := by
  have h := tab_ok
  simp only [Bool.and_eq_true] at h
  exact h.1
theorem part_sub {x : Row} {r : Int} : x ∈ partOf r → x ∈ tab := partOf_cases (p := fun l => x ∈ l → x ∈ tab) (by intro h; simp [tab, h]) (by intro h; simp [tab, h]) (by intro h; simp [tab, h]) (by intro h; simp [tab, h]) (by intro h; simp [tab, h]) r
theorem part_in {x : Row} (hx : x ∈ tab) {r : Int} (h1 : x.fr ≤ r) (h2 : r ≤ x.to) : x ∈ partOf r := by
  have hb := part_bounds
  simp only [Bool.and_eq_true, List.all_eq_true, decide_eq_true_eq] at hb
  obtain ⟨b1, b2, b3, b4, b5⟩ := hb
  simp only [tab, List.mem_append] at hx
  unfold partOf
  rcases hx with (((hx | hx) | hx) | hx) | hx
  · have := b1 x hx; rw [if_pos (by omega)]; exact hx
  · have := b2 x hx; rw [if_neg (by omega), if_pos (by omega)]; exact hx
  · have := b3 x hx; rw [if_neg (by omega), if_neg (by omega), if_pos (by omega)]; exact hx
  · have := b4 x hx; rw [if_neg (by omega), if_neg (by omega), if_neg (by omega), if_pos (by omega)]; exact hx
  · have := b5 x hx; rw [if_neg (by omega), if_neg (by omega), if_neg (by omega), if_neg (by omega)]; exact hx
theorem rowAt_tab {x : Row} (hx : x ∈ tab) {r : Int} (h1 : x.fr ≤ r) (h2 : r ≤ x.to) : rowAt r = x := by
  obtain ⟨i, hi⟩ := List.getElem?_of_mem (part_in hx h1 h2)
  exact rowAt_in hi h1 h2
theorem rowAt_none {r : Int} (h : ∀ x ∈ tab, ¬(x.fr ≤ r ∧ r ≤ x.to)) : rowAt r = plainRow := rowAt_out fun _ x hx => h x (part_sub (List.mem_of_getElem? hx))
theorem rowAt_mem (r : Int) : rowAt r ∈ plainRow :: tab := by
  by_cases h : ∀ x ∈ tab, ¬(x.fr ≤ r ∧ r ≤ x.to)
  · rw [rowAt_none h]; exact List.mem_cons_self ..
  · simp only [Classical.not_forall, Classical.not_not] at h
    obtain ⟨x, hx, h1, h2⟩ := h
    rw [rowAt_tab hx h1 h2]; exact List.mem_cons_of_mem _ hx
theorem tab_le {x : Row} (h : x ∈ tab) : x.fr ≤ x.to := by
  obtain ⟨i, hi⟩ := List.getElem?_of_mem h
  cases hy : tab[i + 1]? with
  | some y => exact (rising_lt tab_rising (Nat.lt_succ_self i) hi hy).2.1
  | none =>
    have hl := (List.getElem?_eq_some_iff.1 hi).1
    have hl2 := List.getElem?_eq_none_iff.1 hy
    rw [tab_len] at hl hl2
    obtain ⟨y0, h0⟩ : ∃ y, tab[0]? = some y := ⟨_, List.getElem?_eq_getElem (i := 0) (by rw [tab_len]; omega)⟩
    exact (rising_lt tab_rising (show 0 < i by omega) h0 hi).2.2

end Go.Proofs.Ytocaeclhmkojiaa
