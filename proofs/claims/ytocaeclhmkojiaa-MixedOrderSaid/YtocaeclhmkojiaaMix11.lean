/-
What a part of a label says of its scripts, its level and its digits: plain laws. Conditions: none.
-/
import Derived.Test.YtocaeclhmkojiaaMix9
import Derived.Test.YtocaeclhmkojiaaMix10
import Derived.Test.YtocaeclhmkojiaaMc
set_option linter.unusedSimpArgs false
set_option linter.unusedVariables false
set_option linter.unusedSectionVars false
namespace Go.Proofs.Ytocaeclhmkojiaa
open Go Go.Ab Go.ChangeShapes Go.WideShapes Go.ChangeAt Go.RowKit

/-- All of one label are of the other. -/
def Sub (p l : List Int) : Prop := ∀ r ∈ p, r ∈ l

theorem sub_any {p l : List Int} (h : Sub p l) (f : Int → Bool) (hp : p.any f = true) : l.any f = true := by
  obtain ⟨r, h1, h2⟩ := List.any_eq_true.1 hp
  exact List.any_eq_true.2 ⟨r, h r h1, h2⟩
theorem sub_both {p l : List Int} (h : Sub p l) (h' : Sub l p) (f : Int → Bool) : p.any f = l.any f := by
  rw [Bool.eq_iff_iff]
  exact ⟨sub_any h f, sub_any h' f⟩
theorem found_both {p l : List Int} (h : Sub p l) (h' : Sub l p) (n : Nat) : found p n = found l n := by
  unfold found hasScript
  refine List.filter_congr fun s _ => ?_
  rw [sub_both h h']
theorem told_both {p l : List Int} (h : Sub p l) (h' : Sub l p) : told (counts p) 12 = told (counts l) 12 := by
  rw [told_found, told_found, found_both h h']
theorem counts_both {p l : List Int} (h : Sub p l) (h' : Sub l p) : counts p = counts l := by
  simp only [counts_bits, hasScript, sub_both h h']
theorem level_both {p l : List Int} (h : Sub p l) (h' : Sub l p) : levelOf p = levelOf l := by
  simp only [levelOf, counts_both h h', sub_both h h']

/-- Digits of one system: any two that have one have the same. -/
def oneKind (l : List Int) : Prop := ∀ r ∈ l, ∀ s ∈ l, (rowAt r).digits ≠ 0 → (rowAt s).digits ≠ 0 → (rowAt r).digits = (rowAt s).digits
theorem system_kind (l : List Int) : ∀ one : Int, (system one l).isSome = true ↔ (∀ r ∈ l, one ≠ 0 → (rowAt r).digits ≠ 0 → (rowAt r).digits = one) ∧ oneKind l := by
  induction l with
  | nil => intro one; simp [system, oneKind]
  | cons r l ih =>
    intro one
    simp only [system]
    have hk : oneKind (r :: l) ↔ (∀ s ∈ l, (rowAt r).digits ≠ 0 → (rowAt s).digits ≠ 0 → (rowAt s).digits = (rowAt r).digits) ∧ oneKind l := by
      constructor
      · intro h
        exact ⟨fun s hs h1 h2 => h s (List.mem_cons_of_mem _ hs) r List.mem_cons_self h2 h1, fun a ha b hb => h a (List.mem_cons_of_mem _ ha) b (List.mem_cons_of_mem _ hb)⟩
      · rintro ⟨h1, h2⟩ a ha b hb ha0 hb0
        rcases List.mem_cons.1 ha with ea | ha'
        · rcases List.mem_cons.1 hb with eb | hb'
          · rw [ea, eb]
          · subst ea; exact (h1 b hb' ha0 hb0).symm
        · rcases List.mem_cons.1 hb with eb | hb'
          · subst eb; exact h1 a ha' hb0 ha0
          · exact h2 a ha' b hb' ha0 hb0
    rw [hk]
    split
    · rename_i hc
      rw [ih]
      constructor
      · rintro ⟨h1, h2⟩
        refine ⟨fun s hs ho hs0 => ?_, fun s hs hr0 hs0 => ?_, h2⟩
        · rcases List.mem_cons.1 hs with rfl | hs
          · exact hc.resolve_left hs0
          · exact h1 s hs ho hs0
        · have hr : (rowAt r).digits = one := hc.resolve_left hr0
          rw [hr]
          exact h1 s hs (by rw [← hr]; exact hr0) hs0
      · rintro ⟨h1, _, h2⟩
        exact ⟨fun s hs => h1 s (List.mem_cons_of_mem _ hs), h2⟩
    · rename_i hc
      have hc1 : (rowAt r).digits ≠ 0 := fun e => hc (.inl e)
      have hc2 : (rowAt r).digits ≠ one := fun e => hc (.inr e)
      split
      · rename_i h0
        simp only [Option.isSome_none, Bool.false_eq_true, false_iff]
        rintro ⟨h1, _⟩
        exact hc2 (h1 r List.mem_cons_self h0 hc1)
      · rename_i h0
        rw [ih]
        constructor
        · rintro ⟨h1, h2⟩
          exact ⟨fun s hs ho => absurd ho h0, fun s hs hr0 hs0 => h1 s hs hr0 hs0, h2⟩
        · rintro ⟨_, h1, h2⟩
          exact ⟨fun s hs hr0 hs0 => h1 s hs hr0 hs0, h2⟩
theorem one_kind (l : List Int) : oneSystem l = true ↔ oneKind l := by
  rw [oneSystem, system_kind]
  exact ⟨fun h => h.2, fun h => ⟨fun _ _ h0 => absurd rfl h0, h⟩⟩
theorem one_sub {p l : List Int} (h : Sub p l) (hl : oneSystem l = true) : oneSystem p = true := by
  rw [one_kind] at hl ⊢
  exact fun r hr s hs => hl r (h r hr) s (h s hs)
theorem one_both {p l : List Int} (h : Sub p l) (h' : Sub l p) : oneSystem p = oneSystem l := by
  rw [Bool.eq_iff_iff]
  exact ⟨one_sub h', one_sub h⟩
theorem check_both {p l : List Int} (h : Sub p l) (h' : Sub l p) : checkOf p = checkOf l := by
  simp only [checkOf, level_both h h', one_both h h']

/-- A label with more scripts is never more restricted. -/
def bl (b2 b3 b4 b5 b6 b7 b8 b9 b10 b11 : Bool) : Int := bitLevel (bitCounts b2 b3 b4 b5 b6 b7 b8 b9 b10 b11)
theorem bl2 : ∀ b3 b4 b5 b6 b7 b8 b9 b10 b11 : Bool, bl false b3 b4 b5 b6 b7 b8 b9 b10 b11 ≤ bl true b3 b4 b5 b6 b7 b8 b9 b10 b11 := by decide +kernel
theorem bl3 : ∀ b2 b4 b5 b6 b7 b8 b9 b10 b11 : Bool, bl b2 false b4 b5 b6 b7 b8 b9 b10 b11 ≤ bl b2 true b4 b5 b6 b7 b8 b9 b10 b11 := by decide +kernel
theorem bl4 : ∀ b2 b3 b5 b6 b7 b8 b9 b10 b11 : Bool, bl b2 b3 false b5 b6 b7 b8 b9 b10 b11 ≤ bl b2 b3 true b5 b6 b7 b8 b9 b10 b11 := by decide +kernel
theorem bl5 : ∀ b2 b3 b4 b6 b7 b8 b9 b10 b11 : Bool, bl b2 b3 b4 false b6 b7 b8 b9 b10 b11 ≤ bl b2 b3 b4 true b6 b7 b8 b9 b10 b11 := by decide +kernel
theorem bl6 : ∀ b2 b3 b4 b5 b7 b8 b9 b10 b11 : Bool, bl b2 b3 b4 b5 false b7 b8 b9 b10 b11 ≤ bl b2 b3 b4 b5 true b7 b8 b9 b10 b11 := by decide +kernel
theorem bl7 : ∀ b2 b3 b4 b5 b6 b8 b9 b10 b11 : Bool, bl b2 b3 b4 b5 b6 false b8 b9 b10 b11 ≤ bl b2 b3 b4 b5 b6 true b8 b9 b10 b11 := by decide +kernel
theorem bl8 : ∀ b2 b3 b4 b5 b6 b7 b9 b10 b11 : Bool, bl b2 b3 b4 b5 b6 b7 false b9 b10 b11 ≤ bl b2 b3 b4 b5 b6 b7 true b9 b10 b11 := by decide +kernel
theorem bl9 : ∀ b2 b3 b4 b5 b6 b7 b8 b10 b11 : Bool, bl b2 b3 b4 b5 b6 b7 b8 false b10 b11 ≤ bl b2 b3 b4 b5 b6 b7 b8 true b10 b11 := by decide +kernel
theorem bl10 : ∀ b2 b3 b4 b5 b6 b7 b8 b9 b11 : Bool, bl b2 b3 b4 b5 b6 b7 b8 b9 false b11 ≤ bl b2 b3 b4 b5 b6 b7 b8 b9 true b11 := by decide +kernel
theorem bl11 : ∀ b2 b3 b4 b5 b6 b7 b8 b9 b10 : Bool, bl b2 b3 b4 b5 b6 b7 b8 b9 b10 false ≤ bl b2 b3 b4 b5 b6 b7 b8 b9 b10 true := by decide +kernel
theorem raise {f : Bool → Int} (h : f false ≤ f true) {b c : Bool} (hbc : b = true → c = true) : f b ≤ f c := by
  cases b
  · cases c
    · exact Int.le_refl _
    · exact h
  · rw [hbc rfl]; exact Int.le_refl _
theorem bl_le {b2 b3 b4 b5 b6 b7 b8 b9 b10 b11 c2 c3 c4 c5 c6 c7 c8 c9 c10 c11 : Bool} (h2 : b2 = true → c2 = true) (h3 : b3 = true → c3 = true) (h4 : b4 = true → c4 = true) (h5 : b5 = true → c5 = true) (h6 : b6 = true → c6 = true)
    (h7 : b7 = true → c7 = true) (h8 : b8 = true → c8 = true) (h9 : b9 = true → c9 = true) (h10 : b10 = true → c10 = true) (h11 : b11 = true → c11 = true) : bl b2 b3 b4 b5 b6 b7 b8 b9 b10 b11 ≤ bl c2 c3 c4 c5 c6 c7 c8 c9 c10 c11 :=
  Int.le_trans (raise (f := fun x => bl x b3 b4 b5 b6 b7 b8 b9 b10 b11) (bl2 ..) h2) (Int.le_trans (raise (f := fun x => bl c2 x b4 b5 b6 b7 b8 b9 b10 b11) (bl3 ..) h3)
    (Int.le_trans (raise (f := fun x => bl c2 c3 x b5 b6 b7 b8 b9 b10 b11) (bl4 ..) h4) (Int.le_trans (raise (f := fun x => bl c2 c3 c4 x b6 b7 b8 b9 b10 b11) (bl5 ..) h5)
      (Int.le_trans (raise (f := fun x => bl c2 c3 c4 c5 x b7 b8 b9 b10 b11) (bl6 ..) h6) (Int.le_trans (raise (f := fun x => bl c2 c3 c4 c5 c6 x b8 b9 b10 b11) (bl7 ..) h7)
        (Int.le_trans (raise (f := fun x => bl c2 c3 c4 c5 c6 c7 x b9 b10 b11) (bl8 ..) h8) (Int.le_trans (raise (f := fun x => bl c2 c3 c4 c5 c6 c7 c8 x b10 b11) (bl9 ..) h9)
          (Int.le_trans (raise (f := fun x => bl c2 c3 c4 c5 c6 c7 c8 c9 x b11) (bl10 ..) h10) (raise (f := fun x => bl c2 c3 c4 c5 c6 c7 c8 c9 c10 x) (bl11 ..) h11)))))))))
theorem level_sub {p l : List Int} (h : Sub p l) : levelOf p ≤ levelOf l := by
  have hs : ∀ s, hasScript p s = true → hasScript l s = true := fun s => sub_any h _
  have h1 : bitLevel (counts p) ≤ bitLevel (counts l) := by
    rw [counts_bits, counts_bits]
    exact bl_le (hs 2) (hs 3) (hs 4) (hs 5) (hs 6) (hs 7) (hs 8) (hs 9) (hs 10) (hs 11)
  have h2 : ∀ cs, 1 ≤ bitLevel cs := fun cs => by
    unfold bitLevel; split
    · omega
    · split <;> omega
  have e : ∀ q, levelOf q = if q.any wideOne = false then 1 else bitLevel (counts q) := fun q => rfl
  rw [e, e]
  by_cases hp : p.any wideOne = true
  · rw [if_neg (by rw [hp]; simp), if_neg (by rw [sub_any h _ hp]; simp)]; exact h1
  · rw [if_pos (by simpa using hp)]
    split
    · omega
    · exact h2 _

/-- Scripts of both parts are those of the label. -/
theorem has_parts (l : List Int) (k : Nat) (s : Int) : hasScript l s = (hasScript (l.take k) s || hasScript (l.drop k) s) := by
  unfold hasScript
  rw [← List.any_append, List.take_append_drop]
theorem told_mem (l : List Int) (s : Nat) : s ∈ told (counts l) 12 ↔ s < 12 ∧ 2 ≤ s ∧ hasScript l s = true := by
  rw [told_found]
  simp [found]
theorem told_parts (l : List Int) (k s : Nat) : s ∈ told (counts l) 12 ↔ s ∈ told (counts (l.take k)) 12 ++ told (counts (l.drop k)) 12 := by
  rw [List.mem_append, told_mem, told_mem, told_mem, has_parts l k, Bool.or_eq_true]
  constructor
  · rintro ⟨h1, h2, h3 | h3⟩
    · exact .inl ⟨h1, h2, h3⟩
    · exact .inr ⟨h1, h2, h3⟩
  · rintro (⟨h1, h2, h3⟩ | ⟨h1, h2, h3⟩)
    · exact ⟨h1, h2, .inl h3⟩
    · exact ⟨h1, h2, .inr h3⟩
theorem told_sorted (l : List Int) : (told (counts l) 12).Pairwise (· < ·) := by
  rw [told_found]
  unfold found
  exact List.Pairwise.filter _ List.pairwise_lt_range
theorem told_nodup (l : List Int) : (told (counts l) 12).Nodup := (told_sorted l).imp fun h => by omega

def parts (l : List Int) (k : Nat) : List Nat := told (counts (l.take k)) 12 ++ told (counts (l.drop k)) 12
theorem parts_len (l : List Int) (k : Nat) : (incs (parts l k) []).length = (told (counts l) 12).length := by
  have hn := incs_nodup (parts l k) [] (by simp)
  have h1 : ((told (counts l) 12).map (fun s : Nat => (s : Int))).Nodup := by
    have := told_nodup l
    rw [List.Nodup, List.pairwise_map]
    exact this.imp fun h e => h (by omega)
  have := ((List.perm_ext_iff_of_nodup hn h1).2 fun c => by
    rw [incs_mem]
    simp only [List.map_nil, List.not_mem_nil, false_or, List.mem_map]
    constructor
    · rintro ⟨s, h, rfl⟩; exact ⟨s, (told_parts l k s).2 h, rfl⟩
    · rintro ⟨s, h, rfl⟩; exact ⟨s, (told_parts l k s).1 h, rfl⟩).length_eq
  simpa using this
theorem parts_get (l : List Int) (k s : Nat) (h : s ∈ told (counts l) 12) : getN (incs (parts l k) []) s ≠ 0 := by
  rw [getN_incs]
  have : 0 < (parts l k).countP fun (x : Nat) => (x : Int) == (s : Int) := List.countP_pos_iff.2 ⟨s, (told_parts l k s).1 h, by simp⟩
  simp only [getN]
  omega
theorem told_count (l : List Int) : (told (counts l) 12).length ≤ 12 := by
  rw [told_found]; exact found_length l 12
end Go.Proofs.Ytocaeclhmkojiaa
