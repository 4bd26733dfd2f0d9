/-
The law of texts: whatever is told is read as it was; whatever is read is told as it was. Conditions: none.
-/
import Derived.Test.YtmhpjoadfgplgaaPunI
set_option linter.unusedSimpArgs false
set_option linter.unusedVariables false
set_option linter.unusedSectionVars false
namespace Go.Proofs.Ytmhpjoadfgplgaa

/-- The plain ones. -/
def pln (L : List Nat) : List Nat := L.filter fun x => decide (x < 128)
def dash (P : List Nat) : List Nat := if P = [] then [] else [45]
/-- A row, as it is told. -/
def encT (L : List Nat) : List Nat := pln L ++ dash (pln L) ++ txS 72 true (dls 128 0 (pln L).length (opsF L 128))

/-- The last place of a byte below k. -/
def lastN (c : Nat) (s : List Nat) : Nat → Option Nat
  | 0 => none
  | k + 1 => if s[k]? = some c then some k else lastN c s k
theorem lastN_some {c : Nat} {s : List Nat} : ∀ {k i : Nat}, lastN c s k = some i → i < k ∧ s[i]? = some c
  | k + 1, i, h => by
    simp only [lastN] at h
    split at h
    · simp only [Option.some.injEq] at h; subst h
      rename_i h2
      exact ⟨Nat.lt_succ_self _, h2⟩
    · have := lastN_some h
      exact ⟨by omega, this.2⟩
/-- The plain part, and the rest. -/
def cutS (s : List Nat) : List Nat × List Nat :=
  match lastN 45 s s.length with
  | some at_ => if 0 < at_ then (s.take at_, s.drop (at_ + 1)) else ([], s)
  | none => ([], s)
/-- What is read of a text. -/
def decT (s : List Nat) : Option (List Nat) :=
  if ((cutS s).1.all fun x => decide (x < 128)) = true then dcd (cutS s).2 (cutS s).1 128 0 72 true else none

theorem lastN_skip {c : Nat} (A : List Nat) : ∀ (k : Nat) (D : List Nat), k ≤ D.length → (∀ x ∈ D, x ≠ c) → lastN c (A ++ D) (A.length + k) = lastN c (A ++ D) A.length
  | 0, D, _, _ => rfl
  | k + 1, D, hk, h => by
    rw [← Nat.add_assoc, lastN]
    have e : (A ++ D)[A.length + k]? = some D[k] := by rw [List.getElem?_append_right (by omega), Nat.add_sub_cancel_left, List.getElem?_eq_getElem (by omega)]
    rw [e, if_neg (by intro hc; exact h _ (List.getElem_mem _) (Option.some.inj hc))]
    exact lastN_skip A k D (by omega) h
theorem lastN_none {c : Nat} {D : List Nat} (h : ∀ x ∈ D, x ≠ c) : lastN c D D.length = none := by
  have := lastN_skip (c := c) [] D.length D (Nat.le_refl _) h
  simpa [lastN] using this

theorem cut_text (P D : List Nat) (h : ∀ x ∈ D, x ≠ 45) : cutS (P ++ dash P ++ D) = (P, D) := by
  unfold cutS dash
  by_cases hP : P = []
  · subst hP
    simp only [if_true, List.nil_append]
    rw [lastN_none h]
  · rw [if_neg hP]
    have hl : (P ++ [45] ++ D).length = (P ++ [45]).length + D.length := List.length_append
    rw [hl, lastN_skip (P ++ [45]) D.length D (Nat.le_refl _) h]
    have hp : 0 < P.length := List.length_pos_iff.2 hP
    have e : (P ++ [45] ++ D)[P.length]? = some 45 := by simp
    have hpl : (P ++ [45]).length = P.length + 1 := by simp
    rw [hpl, lastN, if_pos e]
    simp only [if_pos hp]
    simp

theorem stepS_dig (d b : Nat) : ∀ x ∈ stepS d b, (97 ≤ x ∧ x ≤ 122) ∨ (48 ≤ x ∧ x ≤ 57) := fun x hx => by
  unfold stepS at hx
  obtain ⟨y, hy, rfl⟩ := List.mem_map.1 hx
  have := dgs_lt _ _ _ y hy
  unfold sgn
  split <;> omega
theorem txS_dig : ∀ (l : List (Nat × Nat)) (b : Nat) (f : Bool), ∀ x ∈ txS b f l, (97 ≤ x ∧ x ≤ 122) ∨ (48 ≤ x ∧ x ≤ 57)
  | [], b, f, x, hx => by cases hx
  | (d, h) :: r, b, f, x, hx => by
    rw [txS] at hx
    rcases List.mem_append.1 hx with hx | hx
    · exact stepS_dig d b x hx
    · exact txS_dig r _ _ x hx
theorem bld_mem : ∀ (ops : List (Nat × Nat)) (L : List Nat), ∀ x ∈ bld L ops, x ∈ L ∨ ∃ y ∈ ops, y.1 = x
  | [], L, x, hx => .inl hx
  | (m, p) :: r, L, x, hx => by
    rw [bld] at hx
    rcases bld_mem r _ x hx with h | ⟨y, hy, h⟩
    · rcases List.mem_append.1 h with h | h
      · exact .inl (List.mem_of_mem_take h)
      · rcases List.mem_cons.1 h with rfl | h
        · exact .inr ⟨(x, p), by simp, rfl⟩
        · exact .inl (List.mem_of_mem_drop h)
    · exact .inr ⟨y, by simp [hy], h⟩

/-- All are scalars. -/
def Scs (L : List Nat) : Prop := ∀ x ∈ L, isSc ((x : Nat) : Int) = true
theorem Scs.le {L : List Nat} (h : Scs L) : ∀ x ∈ L, x ≤ 1114111 := fun x hx => by have := h x hx; simp [isSc] at this; omega
theorem sc_plain {x : Nat} (h : x < 128) : isSc ((x : Nat) : Int) = true := by simp [isSc]; omega

/-- P4.3: what is told is read as it was. -/
theorem dec_enc {L : List Nat} (hL : Scs L) (hl : L.length ≤ 10000) : decT (encT L) = some L := by
  have hc := cut_text (pln L) (txS 72 true (dls 128 0 (pln L).length (opsF L 128))) (fun x hx => by have := txS_dig _ _ _ x hx; omega)
  have hpl : ∀ x ∈ pln L, x < 128 := fun x hx => by simpa using (List.mem_filter.1 hx).2
  have hlen := opsF_length L hL.le
  unfold decT
  rw [show encT L = pln L ++ dash (pln L) ++ txS 72 true (dls 128 0 (pln L).length (opsF L 128)) from rfl, hc, if_pos (by simpa using hpl)]
  rw [dcd_txS (opsF L 128) (pln L) 128 0 72 true (ok_opsF L) (Nat.zero_le _) (fun x hx => hL _ (opsF_mem hx)) (by unfold pln; omega)]
  exact congrArg some (bld_opsF hL.le)

/-- And what is read is told as it was. -/
theorem enc_dec {s c : List Nat} (h : decT s = some c) : encT c = s ∧ Scs c := by
  unfold decT at h
  split at h
  · rename_i hp
    have hP : ∀ x ∈ (cutS s).1, x < 128 := by simpa using hp
    obtain ⟨ops, h1, h2, h3, h4⟩ := dcd_back _ _ _ _ _ _ _ (Nat.le_refl _) (Nat.zero_le _) h
    have hT : Top (cutS s).1 128 0 := ⟨fun x hx => by have := hP x hx; omega, fun x hx => hP x hx⟩
    have hle : ∀ x ∈ ops, x.1 ≤ 1114111 := fun x hx => by have := h2 x hx; simp [isSc] at this; omega
    have ho := opsF_bld ops _ 128 0 hT (Nat.le_refl _) h1 hle
    rw [opsF_end _ hP, List.nil_append, ← h3] at ho
    have hpl := plain_bld ops (cutS s).1 (okO_ge ops _ _ _ h1)
    have hP2 : (cutS s).1.filter (fun x => decide (x < 128)) = (cutS s).1 := List.filter_eq_self.2 (by simpa using hP)
    rw [← h3, hP2] at hpl
    have hs : s = (cutS s).1 ++ dash (cutS s).1 ++ (cutS s).2 := by
      unfold cutS dash
      cases hl : lastN 45 s s.length with
      | none => simp
      | some at_ =>
        obtain ⟨k1, k2⟩ := lastN_some hl
        by_cases h0 : 0 < at_
        · simp only [if_pos h0]
          have hne : s.take at_ ≠ [] := fun e => by
            have := congrArg List.length e
            rw [List.length_take, List.length_nil] at this
            omega
          rw [if_neg hne]
          have e : s.drop at_ = 45 :: s.drop (at_ + 1) := by
            rw [List.drop_eq_getElem_cons k1]
            rw [List.getElem?_eq_getElem k1] at k2
            rw [Option.some.inj k2]
          rw [List.append_assoc, List.singleton_append, ← e, List.take_append_drop]
        · simp only [if_neg h0]; simp
    refine ⟨?_, fun x hx => ?_⟩
    · unfold encT
      rw [ho, show pln c = (cutS s).1 from hpl, ← h4]
      exact hs.symm
    · rw [h3] at hx
      rcases bld_mem ops _ x hx with hx | ⟨y, hy, rfl⟩
      · exact sc_plain (hP x hx)
      · exact h2 y hy
  · cases h

theorem enc_inj {L M : List Nat} (hL : Scs L) (hl : L.length ≤ 10000) (hM : Scs M) (hm : M.length ≤ 10000) (h : encT L = encT M) : L = M := by
  have h1 := dec_enc hL hl
  rw [h, dec_enc hM hm] at h1
  exact (Option.some.inj h1).symm
end Go.Proofs.Ytmhpjoadfgplgaa
