/-
What is told, in its parts. Conditions: none.
-/
import Derived.Test.YtmhpjoadfgplgaaPunX
set_option linter.unusedSimpArgs false
set_option linter.unusedVariables false
set_option linter.unusedSectionVars false
namespace Go.Proofs.Ytmhpjoadfgplgaa
open Go Go.Ab

theorem stepS_pre {d d' b : Nat} {r r' : List Nat} (hd : d ≤ 11143348224) (hd' : d' ≤ 11143348224) (h : stepS d b ++ r = stepS d' b ++ r') : d = d' ∧ r = r' := by
  have h1 := rd_dgs b r d 1 0 1 (by omega)
  have h2 := rd_dgs b r' d' 1 0 1 (by omega)
  change rd b 1 0 1 (stepS d b ++ r) = _ at h1
  change rd b 1 0 1 (stepS d' b ++ r') = _ at h2
  rw [h, h2] at h1
  simp only [Option.some.injEq, Prod.mk.injEq] at h1
  exact ⟨by omega, h1.2.symm⟩

theorem pre_txS : ∀ (X Y : List (Nat × Nat)) (b : Nat) (f : Bool) (r : List Nat) (h : Nat), X.map (·.2) = List.range' h X.length → Y.map (·.2) = List.range' h Y.length → (∀ x ∈ X, x.1 ≤ 11143348224) → (∀ x ∈ Y, x.1 ≤ 11143348224) → txS b f X ++ r = txS b f Y →
    X.length ≤ Y.length ∧ (X.length = Y.length → r = [])
  | [], [], b, f, r, h, _, _, _, _, e => ⟨Nat.le_refl _, fun _ => by simpa [txS] using e⟩
  | [], y :: Y, b, f, r, h, _, _, _, _, e => ⟨Nat.zero_le _, fun hh => by simp at hh⟩
  | (d, k) :: X, [], b, f, r, h, _, _, _, _, e => by
    simp only [txS, List.append_eq_nil_iff] at e
    exact absurd e.1.1 (stepS_ne d b)
  | (d, k) :: X, (d', k') :: Y, b, f, r, h, hX, hY, hx, hy, e => by
    simp only [List.map_cons, List.length_cons, List.range'_succ, List.cons.injEq] at hX hY
    obtain ⟨rfl, hX⟩ := hX
    obtain ⟨rfl, hY⟩ := hY
    rw [txS, txS, List.append_assoc] at e
    obtain ⟨rfl, e2⟩ := stepS_pre (hx (d, k') (by simp)) (hy (d', k') (by simp)) e
    obtain ⟨h1, h2⟩ := pre_txS X Y _ _ r (k' + 1) hX hY (fun x hh => hx x (by simp [hh])) (fun x hh => hy x (by simp [hh])) e2
    simp only [List.length_cons]
    exact ⟨by omega, fun hh => h2 (by omega)⟩

theorem dls_snd : ∀ (ops : List (Nat × Nat)) (n i h : Nat), (dls n i h ops).map (·.2) = List.range' (h + 1) ops.length
  | [], _, _, _ => rfl
  | (m, p) :: r, n, i, h => by rw [dls, List.map_cons, dls_snd r, List.length_cons, List.range'_succ]
theorem dls_far : ∀ (ops : List (Nat × Nat)) (n i h : Nat), (∀ x ∈ ops, x.1 ≤ 1114111) → okO n i h ops → h + ops.length ≤ 10000 → ∀ x ∈ dls n i h ops, x.1 ≤ 11143348224
  | [], _, _, _, _, _, _, x, hx => by cases hx
  | (m, p) :: r, n, i, h, hm, hok, hl, x, hx => by
    obtain ⟨h1, h2, h3⟩ := hok
    simp only [List.length_cons] at hl
    have hm1 : m ≤ 1114111 := hm (m, p) (by simp)
    rw [dls] at hx
    rcases List.mem_cons.1 hx with rfl | hx
    · have : (m - n) * (h + 1) ≤ 1114111 * 10001 := Nat.mul_le_mul (by omega) (by omega)
      simp only; omega
    · exact dls_far r m (p + 1) (h + 1) (fun y hy => hm y (by simp [hy])) h3 (by omega) x hx

/-- The digits of a row. -/
def digT (L : List Nat) : List Nat := txS 72 true (dls 128 0 (pln L).length (opsF L 128))
def headT (L : List Nat) : List Nat := pln L ++ dash (pln L)
theorem enc_split (L : List Nat) : encT L = headT L ++ digT L := rfl
theorem dig_dig (L : List Nat) : ∀ x ∈ digT L, (97 ≤ x ∧ x ≤ 122) ∨ (48 ≤ x ∧ x ≤ 57) := txS_dig _ _ _
theorem digT_ge {L : List Nat} : (opsF L 128).length ≤ (digT L).length := by
  have := txS_ge (dls 128 0 (pln L).length (opsF L 128)) 72 true
  rw [dls_length] at this; exact this
theorem pln_lt (L : List Nat) : ∀ x ∈ pln L, x < 128 := fun x hx => by simpa using (List.mem_filter.1 hx).2
theorem digT_ne {L : List Nat} (hS : Scs L) {x : Nat} (hx : x ∈ L) (h : 128 ≤ x) : digT L ≠ [] := fun e => by
  have h1 := opsF_length L hS.le
  have h2 := digT_ge (L := L)
  rw [e, List.length_nil] at h2
  have h3 : (L.filter fun x => decide (x < 128)).length = L.length := by omega
  have h4 := List.Sublist.eq_of_length List.filter_sublist h3
  have := List.filter_eq_self.1 h4 x hx
  simp at this; omega

theorem cut_less {L : List Nat} (hS : Scs L) (hl : L.length ≤ 700) (hne : digT L ≠ []) {m : List Nat} (h : decT ((encT L).take ((encT L).length - 1)) = some m) : m.length < L.length := by
  have hpos := List.length_pos_iff.2 hne
  have htk : (encT L).take ((encT L).length - 1) = headT L ++ (digT L).take ((digT L).length - 1) := by
    rw [enc_split, List.length_append, List.take_append, List.take_of_length_le (by omega)]
    congr 2; omega
  have hc := cut_text (pln L) ((digT L).take ((digT L).length - 1)) (fun x hx => by have := dig_dig L x (List.mem_of_mem_take hx); omega)
  rw [htk, headT] at h
  rw [decT_ok (by rw [hc]; exact pln_lt L), hc] at h
  simp only at h
  obtain ⟨ops', h1, h2, h3, h4⟩ := dcd_back _ _ _ _ _ _ _ (Nat.le_refl _) (Nat.zero_le _) h
  have hle : ∀ x ∈ ops', x.1 ≤ 1114111 := fun x hx => by have := h2 x hx; simp [isSc] at this; omega
  have ho := opsF_length L hS.le
  have hpl : (pln L).length = (L.filter fun x => decide (x < 128)).length := rfl
  have hel := enc_length hS (by omega)
  rw [enc_split, List.length_append] at hel
  have hg := txS_ge (dls 128 0 (pln L).length ops') 72 true
  rw [← h4, dls_length, List.length_take] at hg
  have hhd : (headT L).length = (pln L).length + (dash (pln L)).length := List.length_append
  obtain ⟨k1, k2⟩ := pre_txS _ _ 72 true ((digT L).drop ((digT L).length - 1)) _ (by rw [dls_snd, dls_length]) (by rw [dls_snd, dls_length])
    (dls_far ops' 128 0 (pln L).length hle h1 (by omega)) (dls_far (opsF L 128) 128 0 (pln L).length (fun x hx => hS.le _ (opsF_mem hx)) (ok_opsF L) (by omega)) (by rw [← h4, List.take_append_drop]; rfl)
  rw [dls_length, dls_length] at k1 k2
  have hlt : ops'.length < (opsF L 128).length := by
    rcases Nat.lt_or_eq_of_le k1 with h | h
    · exact h
    · have := congrArg List.length (k2 h)
      rw [List.length_drop, List.length_nil] at this
      omega
  rw [h3, bld_length _ _ (by simp)]
  omega

theorem last_head (L : List Nat) : lastI 45 (encT L) = ((headT L).length : Int) - 1 := by
  have hD : ∀ x ∈ digT L, x ≠ 45 := fun x hx => by have := dig_dig L x hx; omega
  unfold lastI
  rw [enc_split]
  unfold headT dash
  by_cases hP : pln L = []
  · rw [if_pos hP, hP, List.nil_append, List.nil_append, lastN_none hD]
    rfl
  · rw [if_neg hP]
    have hl : (pln L ++ [45] ++ digT L).length = (pln L ++ [45]).length + (digT L).length := List.length_append
    rw [hl, lastN_skip (pln L ++ [45]) _ (digT L) (Nat.le_refl _) hD]
    have e : (pln L ++ [45] ++ digT L)[(pln L).length]? = some 45 := by simp
    have hpl : (pln L ++ [45]).length = (pln L).length + 1 := by simp
    rw [hpl, lastN, if_pos e]
    simp only; omega

/-- One digit that is another byte. -/
def badT (L : List Nat) (j c : Nat) : List Nat := (encT L).take ((headT L).length + j) ++ [c] ++ (encT L).drop ((headT L).length + j + 1)
theorem bad_split (L : List Nat) (j c : Nat) : badT L j c = headT L ++ ((digT L).take j ++ [c] ++ (digT L).drop (j + 1)) := by
  unfold badT
  rw [enc_split, List.take_append, List.take_of_length_le (by omega), List.drop_append, List.drop_of_length_le (by omega), List.nil_append, show (headT L).length + j - (headT L).length = j by omega, show (headT L).length + j + 1 - (headT L).length = j + 1 by omega]
  simp
theorem bad_none {L : List Nat} {j c : Nat} (h1 : ¬ (97 ≤ c ∧ c ≤ 122)) (h2 : ¬ (48 ≤ c ∧ c ≤ 57)) (h3 : c ≠ 45) : decT (badT L j c) = none := by
  have hc := cut_text (pln L) ((digT L).take j ++ [c] ++ (digT L).drop (j + 1)) (fun x hx => by
    rcases List.mem_append.1 hx with hx | hx
    · rcases List.mem_append.1 hx with hx | hx
      · have := dig_dig L x (List.mem_of_mem_take hx); omega
      · simp at hx; omega
    · have := dig_dig L x (List.mem_of_mem_drop hx); omega)
  rw [bad_split, headT, decT_ok (by rw [hc]; exact pln_lt L), hc]
  simp only
  cases hd : dcd ((digT L).take j ++ [c] ++ (digT L).drop (j + 1)) (pln L) 128 0 72 true with
  | none => rfl
  | some m =>
    obtain ⟨ops', _, _, _, k4⟩ := dcd_back _ _ _ _ _ _ _ (Nat.le_refl _) (Nat.zero_le _) hd
    have : c ∈ txS 72 true (dls 128 0 (pln L).length ops') := by rw [← k4]; simp
    have := txS_dig _ _ _ c this
    omega
theorem bad_same {L : List Nat} (hS : Scs L) (hl : L.length ≤ 700) (B : List Nat) : decT B = some L ↔ B = encT L := by
  constructor
  · intro h; exact (enc_dec h).1.symm
  · intro h; rw [h]; exact dec_enc hS (by omega)
theorem bad_by {L : List Nat} {j c : Nat} (hc : c ≤ 255) : ∀ x ∈ badT L j c, x ≤ 255 := fun x hx => by
  unfold badT at hx
  rcases List.mem_append.1 hx with hx | hx
  · rcases List.mem_append.1 hx with hx | hx
    · exact enc_by L x (List.mem_of_mem_take hx)
    · simp at hx; omega
  · exact enc_by L x (List.mem_of_mem_drop hx)
theorem bad_len {L : List Nat} {j c : Nat} (hj : j < (digT L).length) : (badT L j c).length = (encT L).length := by
  unfold badT
  have : (encT L).length = (headT L).length + (digT L).length := List.length_append
  simp only [List.length_append, List.length_take, List.length_drop, List.length_singleton]
  omega
end Go.Proofs.Ytmhpjoadfgplgaa
