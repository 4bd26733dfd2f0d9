/-
The law: digits are read as the step that they were; texts. Conditions: none.
-/
import Derived.Test.YtmhpjoadfgplgaaPunH
set_option linter.unusedSimpArgs false
set_option linter.unusedVariables false
set_option linter.unusedSectionVars false
namespace Go.Proofs.Ytmhpjoadfgplgaa

/-- The digits of one step, read: the step, and what is behind; d: what was read of it, w: what a digit is worth here. -/
def rd (b : Nat) : Nat → Nat → Nat → List Nat → Option (Nat × List Nat)
  | _, _, _, [] => none
  | k, d, w, c :: s => match wth c with
    | none => none
    | some x => if (0 < x ∧ 11143348224 < w) ∨ 11143348224 < d + x * w then none else if x < thr k b then some (d + x * w, s) else rd b (k + 1) (d + x * w) (w * (36 - thr k b)) s

theorem rd_lt (b : Nat) : ∀ (s : List Nat) (k d w : Nat) {D : Nat} {r : List Nat}, rd b k d w s = some (D, r) → r.length < s.length
  | [], k, d, w, D, r, h => by simp [rd] at h
  | c :: s, k, d, w, D, r, h => by
    simp only [rd] at h
    split at h
    · cases h
    · split at h
      · cases h
      · split at h
        · simp only [Option.some.injEq, Prod.mk.injEq] at h
          rw [h.2]; simp
        · have := rd_lt b s _ _ _ h
          simp only [List.length_cons]; omega

/-- A number's first digit, and the rest of it. -/
theorem dig_first {t x : Nat} (h1 : 1 ≤ t) (h2 : t ≤ 26) (hx : t ≤ x) : t + (x - t) % (36 - t) + (36 - t) * ((x - t) / (36 - t)) = x := by
  have := Nat.mod_add_div (x - t) (36 - t)
  omega
theorem dig_back {t g q : Nat} (h2 : t ≤ 26) (hg : t ≤ g) (hg2 : g < 36) : t + (g + (36 - t) * q - t) % (36 - t) = g ∧ (g + (36 - t) * q - t) / (36 - t) = q := by
  have e : g + (36 - t) * q - t = (g - t) + (36 - t) * q := by omega
  rw [e, Nat.add_mul_mod_self_left, Nat.mod_eq_of_lt (by omega), Nat.add_mul_div_left _ _ (by omega), Nat.div_eq_of_lt (by omega)]
  omega

theorem rd_dgs (b : Nat) (rest : List Nat) : ∀ (x k d w : Nat), d + x * w ≤ 11143348224 → rd b k d w ((dgs k x b).map sgn ++ rest) = some (d + x * w, rest) := by
  intro x
  induction x using Nat.strongRecOn with
  | ind x ih =>
    intro k d w hf
    have h1 := thr_pos k b
    have h2 := thr_le k b
    by_cases h : x < thr k b
    · rw [dgs_end h]
      simp only [List.map_cons, List.map_nil, List.singleton_append, rd, wth_sgn (show x < 36 by omega)]
      have hw : ¬ (0 < x ∧ 11143348224 < w) := fun hc => by
        have := Nat.le_mul_of_pos_left w hc.1
        omega
      rw [if_neg (by omega), if_pos h]
    · rw [dgs_more h]
      generalize ht : thr k b = t at *
      have hm := Nat.mod_lt (x - t) (show 0 < 36 - t by omega)
      have hx := dig_first h1 h2 (show t ≤ x by omega)
      have hq := Nat.div_le_self (x - t) (36 - t)
      generalize hg : t + (x - t) % (36 - t) = g at *
      generalize hqq : (x - t) / (36 - t) = q at *
      have hgw : x * w = g * w + q * (w * (36 - t)) := by
        rw [← hx, Nat.add_mul, Nat.mul_comm (36 - t) q, Nat.mul_assoc, Nat.mul_comm (36 - t) w]
      simp only [List.map_cons, List.cons_append, rd, wth_sgn (show g < 36 by omega)]
      have hw : ¬ (0 < g ∧ 11143348224 < w) := fun hc => by
        have := Nat.le_mul_of_pos_left w hc.1
        omega
      rw [ht, if_neg (by omega), if_neg (by omega)]
      have := ih q (by omega) (k + 1) (d + g * w) (w * (36 - t)) (by omega)
      rw [this]
      congr 2
      omega

theorem rd_back (b : Nat) : ∀ (s : List Nat) (k d w : Nat) {D : Nat} {r : List Nat}, rd b k d w s = some (D, r) → ∃ x, D = d + x * w ∧ s = (dgs k x b).map sgn ++ r
  | [], k, d, w, D, r, h => by simp [rd] at h
  | c :: s, k, d, w, D, r, h => by
    have h1 := thr_pos k b
    have h2 := thr_le k b
    simp only [rd] at h
    split at h
    · cases h
    · rename_i g hg
      obtain ⟨hg1, hg2⟩ := wth_some hg
      split at h
      · cases h
      · split at h
        · rename_i hlt
          simp only [Option.some.injEq, Prod.mk.injEq] at h
          obtain ⟨rfl, rfl⟩ := h
          exact ⟨g, rfl, by rw [dgs_end hlt]; simp [hg2]⟩
        · rename_i hge
          obtain ⟨q, hD, hs⟩ := rd_back b s _ _ _ h
          refine ⟨g + (36 - thr k b) * q, ?_, ?_⟩
          · rw [hD, Nat.add_mul, Nat.add_assoc, Nat.mul_comm (36 - thr k b) q, Nat.mul_assoc, Nat.mul_comm w]
          · obtain ⟨e1, e2⟩ := dig_back (q := q) h2 (show thr k b ≤ g by omega) hg1
            have hx : ¬ g + (36 - thr k b) * q < thr k b := by omega
            rw [dgs_more hx, e1, e2, hs]
            simp [hg2]

theorem dgs_ne (k x b : Nat) : dgs k x b ≠ [] := by
  by_cases h : x < thr k b
  · rw [dgs_end h]; simp
  · rw [dgs_more h]; simp
theorem stepS_ne (d b : Nat) : stepS d b ≠ [] := by
  unfold stepS
  simpa using dgs_ne 1 d b

/-- All digits, read. -/
def dcd (s out : List Nat) (n i b : Nat) (first : Bool) : Option (List Nat) :=
  if s = [] then some out else
  match hd : rd b 1 0 1 s with
  | none => none
  | some (d, rest) =>
    if isSc (((n + (i + d) / (out.length + 1) : Nat) : Nat) : Int) = false then none
    else dcd rest (out.take ((i + d) % (out.length + 1)) ++ (n + (i + d) / (out.length + 1)) :: out.drop ((i + d) % (out.length + 1))) (n + (i + d) / (out.length + 1)) ((i + d) % (out.length + 1) + 1) (adp d (out.length + 1) first) false
termination_by s.length
decreasing_by exact rd_lt b s _ _ _ hd

theorem dcd_nil (out : List Nat) (n i b : Nat) (f : Bool) : dcd [] out n i b f = some out := by rw [dcd, if_pos rfl]
theorem dcd_none {s out : List Nat} {n i b : Nat} {f : Bool} (hs : s ≠ []) (h : rd b 1 0 1 s = none) : dcd s out n i b f = none := by
  rw [dcd, if_neg hs]
  split
  · rfl
  · rename_i h2; rw [h] at h2; cases h2
theorem dcd_bad {s out : List Nat} {n i b d : Nat} {r : List Nat} {f : Bool} (hs : s ≠ []) (h : rd b 1 0 1 s = some (d, r)) (h2 : isSc (((n + (i + d) / (out.length + 1) : Nat) : Nat) : Int) = false) : dcd s out n i b f = none := by
  rw [dcd, if_neg hs]
  split
  · rfl
  · rename_i h3
    rw [h] at h3
    simp only [Option.some.injEq, Prod.mk.injEq] at h3
    obtain ⟨rfl, rfl⟩ := h3
    rw [if_pos h2]
theorem dcd_some {s out : List Nat} {n i b d : Nat} {r : List Nat} {f : Bool} (hs : s ≠ []) (h : rd b 1 0 1 s = some (d, r)) (h2 : isSc (((n + (i + d) / (out.length + 1) : Nat) : Nat) : Int) = true) : dcd s out n i b f = dcd r (out.take ((i + d) % (out.length + 1)) ++ (n + (i + d) / (out.length + 1)) :: out.drop ((i + d) % (out.length + 1))) (n + (i + d) / (out.length + 1)) ((i + d) % (out.length + 1) + 1) (adp d (out.length + 1) f) false := by
  rw [dcd, if_neg hs]
  split
  · rename_i h3; rw [h] at h3; cases h3
  · rename_i h3
    rw [h] at h3
    simp only [Option.some.injEq, Prod.mk.injEq] at h3
    obtain ⟨rfl, rfl⟩ := h3
    rw [if_neg (by rw [h2]; simp)]

/-- The steps, as they are written. -/
def txS (b : Nat) (f : Bool) : List (Nat × Nat) → List Nat
  | [] => []
  | (d, h) :: r => stepS d b ++ txS (adp d h f) false r

theorem ins_length (L : List Nat) (p m : Nat) : (L.take p ++ m :: L.drop p).length = L.length + 1 := by
  simp only [List.length_append, List.length_take, List.length_cons, List.length_drop]; omega

/-- What rises is read as it was. -/
theorem dcd_txS : ∀ (ops : List (Nat × Nat)) (out : List Nat) (n i b : Nat) (f : Bool), okO n i out.length ops → i ≤ out.length → (∀ x ∈ ops, isSc ((x.1 : Nat) : Int) = true) → out.length + ops.length ≤ 10000 → dcd (txS b f (dls n i out.length ops)) out n i b f = some (bld out ops)
  | [], out, n, i, b, f, _, _, _, _ => by rw [dls, txS, dcd_nil, bld]
  | (m, p) :: r, out, n, i, b, f, hok, hi, hsc, hl => by
    obtain ⟨h1, h2, h3⟩ := hok
    have hm := hsc (m, p) (by simp)
    simp only at hm
    have hm2 : m ≤ 1114111 := by simp [isSc] at hm; omega
    simp only [List.length_cons] at hl
    obtain ⟨d, hd⟩ : ∃ d, d = (m - n) * (out.length + 1) + p - i := ⟨_, rfl⟩
    have hnm : n ≤ m := by omega
    have hid : i + d = p + (out.length + 1) * (m - n) := by
      have : i ≤ (m - n) * (out.length + 1) + p := by
        rcases h1 with h1 | ⟨_, h1⟩
        · have := Nat.le_mul_of_pos_left (out.length + 1) (show 0 < m - n by omega)
          omega
        · omega
      rw [Nat.mul_comm (out.length + 1)]; omega
    have hq : (i + d) / (out.length + 1) = m - n := by rw [hid, Nat.add_mul_div_left _ _ (by omega), Nat.div_eq_of_lt (by omega)]; omega
    have hr : (i + d) % (out.length + 1) = p := by rw [hid, Nat.add_mul_mod_self_left, Nat.mod_eq_of_lt (by omega)]
    have hfar : d ≤ 11143348224 := by
      have : (m - n) * (out.length + 1) ≤ 1114111 * 10001 := Nat.mul_le_mul (by omega) (by omega)
      omega
    have hrd := rd_dgs b (txS (adp d (out.length + 1) f) false (dls m (p + 1) (out.length + 1) r)) d 1 0 1 (by omega)
    rw [Nat.zero_add, Nat.mul_one] at hrd
    have hne : stepS d b ++ txS (adp d (out.length + 1) f) false (dls m (p + 1) (out.length + 1) r) ≠ [] := by simp [stepS_ne]
    have hmn : n + (m - n) = m := by omega
    rw [dls, txS, ← hd, dcd_some hne hrd (by rw [hq, hmn]; exact hm), hq, hr, hmn, bld]
    have hlen := ins_length out p m
    have ih := dcd_txS r (out.take p ++ m :: out.drop p) m (p + 1) (adp d (out.length + 1) f) false (by rw [hlen]; exact h3) (by rw [hlen]; omega) (fun x hx => hsc x (by simp [hx])) (by rw [hlen]; omega)
    rw [hlen] at ih
    exact ih

/-- What is read is of steps that rise. -/
theorem dcd_back : ∀ (N : Nat) (s out : List Nat) (n i b : Nat) (f : Bool) {c : List Nat}, s.length ≤ N → i ≤ out.length → dcd s out n i b f = some c → ∃ ops, okO n i out.length ops ∧ (∀ x ∈ ops, isSc ((x.1 : Nat) : Int) = true) ∧ c = bld out ops ∧ s = txS b f (dls n i out.length ops)
  | N, [], out, n, i, b, f, c, _, _, h => by
    rw [dcd_nil] at h
    simp only [Option.some.injEq] at h
    subst h
    exact ⟨[], trivial, by simp, rfl, rfl⟩
  | 0, a :: s, out, n, i, b, f, c, hN, _, h => by simp at hN
  | N + 1, a :: s, out, n, i, b, f, c, hN, hi, h => by
    cases hrd : rd b 1 0 1 (a :: s) with
    | none => rw [dcd_none (by simp) hrd] at h; cases h
    | some x =>
      obtain ⟨d, rest⟩ := x
      cases hsc : isSc (((n + (i + d) / (out.length + 1) : Nat) : Nat) : Int) with
      | false => rw [dcd_bad (by simp) hrd hsc] at h; cases h
      | true =>
        rw [dcd_some (by simp) hrd hsc] at h
        have hlt := rd_lt b _ _ _ _ hrd
        obtain ⟨x, hx, hs⟩ := rd_back b _ _ _ _ hrd
        rw [Nat.zero_add, Nat.mul_one] at hx
        subst hx
        have hm := Nat.mod_lt (i + d) (show 0 < out.length + 1 by omega)
        have hdm := Nat.div_add_mod (i + d) (out.length + 1)
        generalize hq : (i + d) / (out.length + 1) = q at *
        generalize hp : (i + d) % (out.length + 1) = p at *
        obtain ⟨ops, k1, k2, k3, k4⟩ := dcd_back N rest _ _ _ _ _ (by omega) (by rw [ins_length]; omega) h
        rw [ins_length] at k1 k4
        have hd : (n + q - n) * (out.length + 1) + p - i = d := by
          rw [Nat.add_sub_cancel_left, Nat.mul_comm]; omega
        refine ⟨(n + q, p) :: ops, ⟨?_, by omega, k1⟩, ?_, k3, ?_⟩
        · rcases Nat.eq_zero_or_pos q with h0 | h0
          · subst h0
            refine .inr ⟨by omega, ?_⟩
            simp at hdm
            omega
          · exact .inl (by omega)
        · intro x hx
          rcases List.mem_cons.1 hx with rfl | hx
          · exact hsc
          · exact k2 x hx
        · rw [dls, hd, txS, ← k4, hs]
          rfl
end Go.Proofs.Ytmhpjoadfgplgaa
