/-
PunyCut: texts that are cut, or changed. Conditions: none.
-/
import Derived.Test.YtmhpjoadfgplgaaPunX
set_option linter.unusedSimpArgs false
set_option linter.unusedVariables false
set_option linter.unusedSectionVars false
namespace Go.Proofs.Ytmhpjoadfgplgaa
open Go Go.Ab

theorem stepS_pre {d d' b : Nat} {r r' : List Nat} (hd : d ≤ 11143348224) (hd' : d' ≤ 11143348224) (h : stepS d b ++ r = stepS d' b ++ r') : d = d' ∧ r = r' := by
  have h1 := rd_dgs b r d 1 0 1 (by omega)
  have h2 := rd_dgs b r' d' 1 0 1 (by omega)
  change rd b 1 0 1 (stepS d b ++ r) = _ at h1
  change rd b 1 0 1 (stepS d' b ++ r') = _ at h2
  rw [h, h2] at h1
  simp only [Option.some.injEq, Prod.mk.injEq] at h1
  exact ⟨by omega, h1.2.symm⟩

theorem pre_txS : ∀ (X Y : List (Nat × Nat)) (b : Nat) (f : Bool) (r : List Nat) (h : Nat), X.map (·.2) = List.range' h X.length → Y.map (·.2) = List.range' h Y.length → (∀ x ∈ X, x.1 ≤ 11143348224) → (∀ x ∈ Y, x.1 ≤ 11143348224) → txS b f X ++ r = txS b f Y →
    X.length ≤ Y.length ∧ (X.length = Y.length → r = [])
  | [], [], b, f, r, h, _, _, _, _, e => ⟨Nat.le_refl _, fun _ => by simpa [txS] using e⟩
  | [], y :: Y, b, f, r, h, _, _, _, _, e => ⟨Nat.zero_le _, fun hh => by simp at hh⟩
  | (d, k) :: X, [], b, f, r, h, _, _, _, _, e => by
    simp only [txS, List.append_eq_nil_iff] at e
    exact absurd e.1.1 (stepS_ne d b)
  | (d, k) :: X, (d', k') :: Y, b, f, r, h, hX, hY, hx, hy, e => by
    simp only [List.map_cons, List.length_cons, List.range'_succ, List.cons.injEq] at hX hY
    obtain ⟨rfl, hX⟩ := hX
    obtain ⟨rfl, hY⟩ := hY
    rw [txS, txS, List.append_assoc] at e
    obtain ⟨rfl, e2⟩ := stepS_pre (hx (d, k') (by simp)) (hy (d', k') (by simp)) e
    obtain ⟨h1, h2⟩ := pre_txS X Y _ _ r (k' + 1) hX hY (fun x hh => hx x (by simp [hh])) (fun x hh => hy x (by simp [hh])) e2
    simp only [List.length_cons]
    exact ⟨by omega, fun hh => h2 (by omega)⟩

theorem dls_snd : ∀ (ops : List (Nat × Nat)) (n i h : Nat), (dls n i h ops).map (·.2) = List.range' (h + 1) ops.length
  | [], _, _, _ => rfl
  | (m, p) :: r, n, i, h => by rw [dls, List.map_cons, dls_snd r, List.length_cons, List.range'_succ]
theorem dls_far : ∀ (ops : List (Nat × Nat)) (n i h : Nat), (∀ x ∈ ops, x.1 ≤ 1114111) → okO n i h ops → h + ops.length ≤ 10000 → ∀ x ∈ dls n i h ops, x.1 ≤ 11143348224
  | [], _, _, _, _, _, _, x, hx => by cases hx
  | (m, p) :: r, n, i, h, hm, hok, hl, x, hx => by
    obtain ⟨h1, h2, h3⟩ := hok
    simp only [List.length_cons] at hl
    have hm1 : m ≤ 1114111 := hm (m, p) (by simp)
    rw [dls] at hx
    rcases List.mem_cons.1 hx with rfl | hx
    · have : (m - n) * (h + 1) ≤ 1114111 * 10001 := Nat.mul_le_mul (by omega) (by omega)
      simp only; omega
    · exact dls_far r m (p + 1) (h + 1) (fun y hy => hm y (by simp [hy])) h3 (by omega) x hx

/-- The digits of a row. -/
def digT (L : List Nat) : List Nat := txS 72 true (dls 128 0 (pln L).length (opsF L 128))
def headT (L : List Nat) : List Nat := pln L ++ dash (pln L)
theorem enc_split (L : List Nat) : encT L = headT L ++ digT L := rfl
theorem dig_dig (L : List Nat) : ∀ x ∈ digT L, (97 ≤ x ∧ x ≤ 122) ∨ (48 ≤ x ∧ x ≤ 57) := txS_dig _ _ _
theorem digT_ge {L : List Nat} : (opsF L 128).length ≤ (digT L).length := by
  have := txS_ge (dls 128 0 (pln L).length (opsF L 128)) 72 true
  rw [dls_length] at this; exact this
theorem pln_lt (L : List Nat) : ∀ x ∈ pln L, x < 128 := fun x hx => by simpa using (List.mem_filter.1 hx).2
theorem digT_ne {L : List Nat} (hS : Scs L) {x : Nat} (hx : x ∈ L) (h : 128 ≤ x) : digT L ≠ [] := fun e => by
  have h1 := opsF_length L hS.le
  have h2 := digT_ge (L := L)
  rw [e, List.length_nil] at h2
  have h3 : (L.filter fun x => decide (x < 128)).length = L.length := by omega
  have h4 := List.Sublist.eq_of_length List.filter_sublist h3
  have := List.filter_eq_self.1 h4 x hx
  simp at this; omega

theorem cut_less {L : List Nat} (hS : Scs L) (hl : L.length ≤ 700) (hne : digT L ≠ []) {m : List Nat} (h : decT ((encT L).take ((encT L).length - 1)) = some m) : m.length < L.length := by
  have hpos := List.length_pos_iff.2 hne
  have htk : (encT L).take ((encT L).length - 1) = headT L ++ (digT L).take ((digT L).length - 1) := by
    rw [enc_split, List.length_append, List.take_append, List.take_of_length_le (by omega)]
    congr 2; omega
  have hc := cut_text (pln L) ((digT L).take ((digT L).length - 1)) (fun x hx => by have := dig_dig L x (List.mem_of_mem_take hx); omega)
  rw [htk, headT] at h
  rw [decT_ok (by rw [hc]; exact pln_lt L), hc] at h
  simp only at h
  obtain ⟨ops', h1, h2, h3, h4⟩ := dcd_back _ _ _ _ _ _ _ (Nat.le_refl _) (Nat.zero_le _) h
  have hle : ∀ x ∈ ops', x.1 ≤ 1114111 := fun x hx => by have := h2 x hx; simp [isSc] at this; omega
  have ho := opsF_length L hS.le
  have hpl : (pln L).length = (L.filter fun x => decide (x < 128)).length := rfl
  have hel := enc_length hS (by omega)
  rw [enc_split, List.length_append] at hel
  have hg := txS_ge (dls 128 0 (pln L).length ops') 72 true
  rw [← h4, dls_length, List.length_take] at hg
  have hhd : (headT L).length = (pln L).length + (dash (pln L)).length := List.length_append
  obtain ⟨k1, k2⟩ := pre_txS _ _ 72 true ((digT L).drop ((digT L).length - 1)) _ (by rw [dls_snd, dls_length]) (by rw [dls_snd, dls_length])
    (dls_far ops' 128 0 (pln L).length hle h1 (by omega)) (dls_far (opsF L 128) 128 0 (pln L).length (fun x hx => hS.le _ (opsF_mem hx)) (ok_opsF L) (by omega)) (by rw [← h4, List.take_append_drop]; rfl)
  rw [dls_length, dls_length] at k1 k2
  have hlt : ops'.length < (opsF L 128).length := by
    rcases Nat.lt_or_eq_of_le k1 with h | h
    · exact h
    · have := congrArg List.length (k2 h)
      rw [List.length_drop, List.length_nil] at this
      omega
  rw [h3, bld_length _ _ (by simp)]
  omega

theorem last_head (L : List Nat) : lastI 45 (encT L) = ((headT L).length : Int) - 1 := by
  have hD : ∀ x ∈ digT L, x ≠ 45 := fun x hx => by have := dig_dig L x hx; omega
  unfold lastI
  rw [enc_split]
  unfold headT dash
  by_cases hP : pln L = []
  · rw [if_pos hP, hP, List.nil_append, List.nil_append, lastN_none hD]
    rfl
  · rw [if_neg hP]
    have hl : (pln L ++ [45] ++ digT L).length = (pln L ++ [45]).length + (digT L).length := List.length_append
    rw [hl, lastN_skip (pln L ++ [45]) _ (digT L) (Nat.le_refl _) hD]
    have e : (pln L ++ [45] ++ digT L)[(pln L).length]? = some 45 := by simp
    have hpl : (pln L ++ [45]).length = (pln L).length + 1 := by simp
    rw [hpl, lastN, if_pos e]
    simp only; omega

/-- One digit that is another byte. -/
def badT (L : List Nat) (j c : Nat) : List Nat := (encT L).take ((headT L).length + j) ++ [c] ++ (encT L).drop ((headT L).length + j + 1)
theorem bad_split (L : List Nat) (j c : Nat) : badT L j c = headT L ++ ((digT L).take j ++ [c] ++ (digT L).drop (j + 1)) := by
  unfold badT
  rw [enc_split, List.take_append, List.take_of_length_le (by omega), List.drop_append, List.drop_of_length_le (by omega), List.nil_append, show (headT L).length + j - (headT L).length = j by omega, show (headT L).length + j + 1 - (headT L).length = j + 1 by omega]
  simp
theorem bad_none {L : List Nat} {j c : Nat} (h1 : ¬ (97 ≤ c ∧ c ≤ 122)) (h2 : ¬ (48 ≤ c ∧ c ≤ 57)) (h3 : c ≠ 45) : decT (badT L j c) = none := by
  have hc := cut_text (pln L) ((digT L).take j ++ [c] ++ (digT L).drop (j + 1)) (fun x hx => by
    rcases List.mem_append.1 hx with hx | hx
    · rcases List.mem_append.1 hx with hx | hx
      · have := dig_dig L x (List.mem_of_mem_take hx); omega
      · simp at hx; omega
    · have := dig_dig L x (List.mem_of_mem_drop hx); omega)
  rw [bad_split, headT, decT_ok (by rw [hc]; exact pln_lt L), hc]
  simp only
  cases hd : dcd ((digT L).take j ++ [c] ++ (digT L).drop (j + 1)) (pln L) 128 0 72 true with
  | none => rfl
  | some m =>
    obtain ⟨ops', _, _, _, k4⟩ := dcd_back _ _ _ _ _ _ _ (Nat.le_refl _) (Nat.zero_le _) hd
    have : c ∈ txS 72 true (dls 128 0 (pln L).length ops') := by rw [← k4]; simp
    have := txS_dig _ _ _ c this
    omega
theorem bad_same {L : List Nat} (hS : Scs L) (hl : L.length ≤ 700) (B : List Nat) : decT B = some L ↔ B = encT L := by
  constructor
  · intro h; exact (enc_dec h).1.symm
  · intro h; rw [h]; exact dec_enc hS (by omega)
theorem bad_by {L : List Nat} {j c : Nat} (hc : c ≤ 255) : ∀ x ∈ badT L j c, x ≤ 255 := fun x hx => by
  unfold badT at hx
  rcases List.mem_append.1 hx with hx | hx
  · rcases List.mem_append.1 hx with hx | hx
    · exact enc_by L x (List.mem_of_mem_take hx)
    · simp at hx; omega
  · exact enc_by L x (List.mem_of_mem_drop hx)
theorem bad_len {L : List Nat} {j c : Nat} (hj : j < (digT L).length) : (badT L j c).length = (encT L).length := by
  unfold badT
  have : (encT L).length = (headT L).length + (digT L).length := List.length_append
  simp only [List.length_append, List.length_take, List.length_drop, List.length_singleton]
  omega
def a5 : ACode :=
  (.seq (.reg [⟨(.some 6), (.mv (.k (.bool false))), .none⟩]) (.seq (.seq (.reg [⟨(.some 16), (.mv (.t 0)), .none⟩, ⟨(.some 17), (.len (.t 16)), .none⟩, ⟨(.some 18), (.bin .gtr (.t 17) (.k (.int .i64
  300))), .none⟩]) (.cond (.t 18) (.seq (.reg [⟨(.some 19), (.call (.f 14) []), .none⟩, ⟨(.some 6), (.mv (.t 19)), .none⟩]) .ret) .skip)) (.seq (.reg [⟨(.some 20), (.mv (.t 0)), .none⟩, ⟨(.some 21),
  (.call (.f 20) [(.t 20)]), .none⟩, ⟨(.some 22), (.bs 21 1 [(.k (.int .i32 19968))]), .none⟩, ⟨(.some 23), (.app 21 4 (.t 21) (.t 22)), .none⟩, ⟨(.some 0), (.mv (.t 23)), .none⟩]) (.seq (.reg [⟨(.some
  25), (.mv (.t 0)), .none⟩, ⟨(.some 26), (.call (.f 15) [(.t 25)]), .none⟩, ⟨(.some 24), (.mv (.t 26)), .none⟩, ⟨(.some 27), (.ext (.t 24) 0), .none⟩, ⟨(.some 28), (.ext (.t 24) 1), .none⟩, ⟨(.some 7),
  (.mv (.t 27)), .none⟩, ⟨(.some 8), (.mv (.t 28)), .none⟩]) (.seq (.seq (.reg [⟨(.some 29), (.mv (.t 8)), .none⟩, ⟨(.some 30), (.bin .neq (.t 29) (.k (.int .i64 0))), .none⟩, ⟨(.some 31), (.mv (.t
  30)), .none⟩, ⟨(.some 32), (.mv (.t 7)), (.some (31, false))⟩, ⟨(.some 33), (.lenS (.t 32)), (.some (31, false))⟩, ⟨(.some 34), (.bin .eql (.t 33) (.k (.int .i64 0))), (.some (31, false))⟩, ⟨(.some
  35), (.pick (.t 31) (.k (.bool true)) (.t 34)), .none⟩]) (.cond (.t 35) (.seq (.reg [⟨(.some 6), (.mv (.k (.bool false))), .none⟩]) .ret) .skip)) (.seq (.seq (.reg [⟨(.some 37), (.mv (.t 7)), .none⟩,
  ⟨(.some 38), (.mv (.t 7)), .none⟩, ⟨(.some 39), (.lenS (.t 38)), .none⟩, ⟨(.some 40), (.bin .sub (.t 39) (.k (.int .i64 1))), .none⟩, ⟨(.some 41), (.slS (.t 37) .none (.some (.t 40))), .none⟩, ⟨(.some
  42), (.call (.f 17) [(.t 41)]), .none⟩, ⟨(.some 36), (.mv (.t 42)), .none⟩, ⟨(.some 43), (.ext (.t 36) 0), .none⟩, ⟨(.some 44), (.ext (.t 36) 1), .none⟩, ⟨(.some 9), (.mv (.t 43)), .none⟩, ⟨(.some
  10), (.mv (.t 44)), .none⟩]) (.seq (.reg [⟨(.some 45), (.mv (.t 10)), .none⟩, ⟨(.some 46), (.bin .eql (.t 45) (.k (.int .i64 0))), .none⟩, ⟨(.some 47), (.mv (.t 46)), .none⟩, ⟨(.some 48), (.mv (.t
  9)), (.some (47, true))⟩, ⟨(.some 49), (.mv (.t 0)), (.some (47, true))⟩, ⟨(.some 50), (.call (.f 19) [(.t 48), (.t 49)]), (.some (47, true))⟩, ⟨(.some 51), (.mv (.t 50)), (.some (47, true))⟩, ⟨(.some
  52), (.mv (.t 9)), (.some (51, false))⟩, ⟨(.some 53), (.len (.t 52)), (.some (51, false))⟩, ⟨(.some 54), (.mv (.t 0)), (.some (51, false))⟩, ⟨(.some 55), (.len (.t 54)), (.some (51, false))⟩, ⟨(.some
  56), (.bin .geq (.t 53) (.t 55)), (.some (51, false))⟩, ⟨(.some 57), (.pick (.t 51) (.k (.bool true)) (.t 56)), (.some (47, true))⟩, ⟨(.some 58), (.pick (.t 47) (.t 57) (.k (.bool false))), .none⟩,
  ⟨(.some 59), (.mv (.t 58)), .none⟩, ⟨(.some 60), (.mv (.t 10)), (.some (59, false))⟩, ⟨(.some 61), (.bin .neq (.t 60) (.k (.int .i64 0))), (.some (59, false))⟩, ⟨(.some 62), (.mv (.t 61)), (.some (59,
  false))⟩, ⟨(.some 63), (.mv (.t 10)), (.some (62, true))⟩, ⟨(.some 64), (.bin .neq (.t 63) (.k (.int .i64 40))), (.some (62, true))⟩, ⟨(.some 65), (.pick (.t 62) (.t 64) (.k (.bool false))), (.some
  (59, false))⟩, ⟨(.some 66), (.pick (.t 59) (.k (.bool true)) (.t 65)), .none⟩]) (.cond (.t 66) (.seq (.reg [⟨(.some 6), (.mv (.k (.bool false))), .none⟩]) .ret) .skip))) (.seq (.reg [⟨(.some 67), (.mv
  (.t 7)), .none⟩, ⟨(.some 68), (.call (.f 21) [(.t 67), (.k (.int .u8 45))]), .none⟩, ⟨(.some 69), (.bin .add (.t 68) (.k (.int .i64 1))), .none⟩, ⟨(.some 11), (.mv (.t 69)), .none⟩]) (.seq (.reg
  [⟨(.some 70), (.mv (.t 11)), .none⟩, ⟨(.some 71), (.mv (.t 1)), .none⟩, ⟨(.some 72), (.cvI .i64 (.t 71)), .none⟩, ⟨(.some 73), (.mv (.t 7)), .none⟩, ⟨(.some 74), (.lenS (.t 73)), .none⟩, ⟨(.some 75),
  (.mv (.t 11)), .none⟩, ⟨(.some 76), (.bin .sub (.t 74) (.t 75)), .none⟩, ⟨(.some 77), (.bin .rem (.t 72) (.t 76)), .none⟩, ⟨(.some 78), (.bin .add (.t 70) (.t 77)), .none⟩, ⟨(.some 12), (.mv (.t 78)),
  .none⟩]) (.seq (.dreg [⟨(.some 79), (.mv (.t 7)), .none⟩, ⟨(.some 80), (.mv (.t 12)), .none⟩, ⟨(.some 81), (.slS (.t 79) .none (.some (.t 80))), .none⟩, ⟨(.some 82), (.mv (.t 2)), .none⟩, ⟨(.some 83),
  (.bs 5 1 [(.t 82)]), .none⟩, ⟨(.some 84), (.cvBS (.t 83)), .none⟩, ⟨(.some 85), (.bin .add (.t 81) (.t 84)), .none⟩, ⟨(.some 86), (.mv (.t 7)), .none⟩, ⟨(.some 87), (.mv (.t 12)), .none⟩, ⟨(.some 88),
  (.bin .add (.t 87) (.k (.int .i64 1))), .none⟩, ⟨(.some 89), (.slS (.t 86) (.some (.t 88)) .none), .none⟩, ⟨(.some 90), (.bin .add (.t 85) (.t 89)), .none⟩, ⟨(.some 13), (.mv (.t 90)), .none⟩]) (.seq
  (.reg [⟨(.some 92), (.mv (.t 13)), .none⟩, ⟨(.some 93), (.call (.f 17) [(.t 92)]), .none⟩, ⟨(.some 91), (.mv (.t 93)), .none⟩, ⟨(.some 94), (.ext (.t 91) 0), .none⟩, ⟨(.some 95), (.ext (.t 91) 1),
  .none⟩, ⟨(.some 14), (.mv (.t 94)), .none⟩, ⟨(.some 15), (.mv (.t 95)), .none⟩]) (.seq (.seq (.reg [⟨(.some 96), (.mv (.t 2)), .none⟩, ⟨(.some 97), (.bin .geq (.t 96) (.k (.int .u8 97))), .none⟩,
  ⟨(.some 98), (.mv (.t 97)), .none⟩, ⟨(.some 99), (.mv (.t 2)), (.some (98, true))⟩, ⟨(.some 100), (.bin .leq (.t 99) (.k (.int .u8 122))), (.some (98, true))⟩, ⟨(.some 101), (.pick (.t 98) (.t 100)
  (.k (.bool false))), .none⟩, ⟨(.some 102), (.mv (.t 101)), .none⟩, ⟨(.some 103), (.mv (.t 2)), (.some (102, false))⟩, ⟨(.some 104), (.bin .geq (.t 103) (.k (.int .u8 48))), (.some (102, false))⟩,
  ⟨(.some 105), (.mv (.t 104)), (.some (102, false))⟩, ⟨(.some 106), (.mv (.t 2)), (.some (105, true))⟩, ⟨(.some 107), (.bin .leq (.t 106) (.k (.int .u8 57))), (.some (105, true))⟩, ⟨(.some 108), (.pick
  (.t 105) (.t 107) (.k (.bool false))), (.some (102, false))⟩, ⟨(.some 109), (.pick (.t 102) (.k (.bool true)) (.t 108)), .none⟩]) (.cond (.t 109) (.seq (.reg [⟨(.some 110), (.mv (.t 15)), .none⟩,
  ⟨(.some 111), (.bin .eql (.t 110) (.k (.int .i64 0))), .none⟩, ⟨(.some 112), (.mv (.t 111)), .none⟩, ⟨(.some 113), (.mv (.t 14)), (.some (112, true))⟩, ⟨(.some 114), (.mv (.t 0)), (.some (112,
  true))⟩, ⟨(.some 115), (.call (.f 19) [(.t 113), (.t 114)]), (.some (112, true))⟩, ⟨(.some 116), (.pick (.t 112) (.t 115) (.k (.bool false))), .none⟩, ⟨(.some 117), (.mv (.t 13)), .none⟩, ⟨(.some
  118), (.mv (.t 7)), .none⟩, ⟨(.some 119), (.bin .eql (.t 117) (.t 118)), .none⟩, ⟨(.some 120), (.eqB false (.t 116) (.t 119)), .none⟩, ⟨(.some 121), (.mv (.t 120)), .none⟩, ⟨(.some 122), (.call (.f
  14) []), (.some (121, true))⟩, ⟨(.some 123), (.pick (.t 121) (.t 122) (.k (.bool false))), .none⟩, ⟨(.some 6), (.mv (.t 123)), .none⟩]) .ret) .skip)) (.seq (.reg [⟨(.some 124), (.mv (.t 2)), .none⟩,
  ⟨(.some 125), (.bin .eql (.t 124) (.k (.int .u8 45))), .none⟩, ⟨(.some 126), (.mv (.t 125)), .none⟩, ⟨(.some 127), (.mv (.t 15)), (.some (126, false))⟩, ⟨(.some 128), (.bin .eql (.t 127) (.k (.int
  .i64 40))), (.some (126, false))⟩, ⟨(.some 129), (.pick (.t 126) (.k (.bool true)) (.t 128)), .none⟩, ⟨(.some 130), (.mv (.t 129)), .none⟩, ⟨(.some 131), (.call (.f 14) []), (.some (130, true))⟩,
  ⟨(.some 132), (.pick (.t 130) (.t 131) (.k (.bool false))), .none⟩, ⟨(.some 6), (.mv (.t 132)), .none⟩]) .ret))))))))))))
theorem c5 : Try.f5.body.bind (cCode Try.prog 133) = some a5 := by kernel_rfl
theorem r5 : Try.f5.results.toList = [(.tmp 6)] := by kernel_rfl
theorem n5 : Try.f5.ntmps = 133 := by kernel_rfl
theorem e5 : Enters Try.prog 5 := enters_of Try.func5 (by kernel_rfl) (by kernel_rfl)

/-- What the decoder hands back, compared with a row. -/
theorem same_ofN (m L : List Nat) : (ofN m == ofN L) = decide (m = L) := by
  rw [Bool.eq_iff_iff, beq_iff_eq, decide_eq_true_eq]
  constructor
  · intro h
    have := congrArg (List.map Int.toNat) h
    rwa [ofN_nat, ofN_nat] at this
  · intro h; rw [h]

set_option maxRecDepth 10000 in
set_option maxHeartbeats 1000000 in
theorem punyCut_pure (l : List Int) (hl : Runes l) (at_ : Int) (ha : 0 ≤ at_ ∧ at_ ≤ 65535) (c : Int) (hc : 0 ≤ c ∧ c ≤ 255) : Pure Try.prog 5 [rS l none, .lit (.int .u16 at_), .lit (.int .u8 c)] [] (.lit (.bool true)) := by
  obtain ⟨c, rfl⟩ : ∃ n : Nat, c = n := ⟨c.toNat, by omega⟩
  obtain ⟨a, rfl⟩ : ∃ n : Nat, at_ = n := ⟨at_.toNat, by omega⟩
  refine pure0 Try.func5 c5 n5 e5 r5 (by simp) (by rfl) ?_
  simp only [a5, astart, argSlots, runes_length, go_sem, Nat.reduceAdd, Nat.reduceEqDiff, Nat.reduceLT, reduceIte, reduceCtorEq, Nat.reduceBEq, Int.reduceLT, Int.reduceToNat, Int.reducePow, Nat.reduceLeDiff, Int.reduceLE, Nat.reduceMul, Nat.reduceSub]
  by_cases h1 : 300 < l.length
  · have d1 : decide ((l.length : Int) > 300) = true := by simp; omega
    simp only [d1, go_sem, Nat.reduceAdd, Nat.reduceEqDiff, Nat.reduceLT, reduceIte, reduceCtorEq, Nat.reduceBEq, Int.reduceLT, Int.reduceToNat, Int.reducePow, Nat.reduceLeDiff, Int.reduceLE, Nat.reduceMul, Nat.reduceSub]
    refine callGo_pure awake04_pure (by rfl) ?_
    simp only [go_sem, Nat.reduceAdd, Nat.reduceEqDiff, Nat.reduceLT, reduceIte, reduceCtorEq, Nat.reduceBEq, Int.reduceLT, Int.reduceToNat, Int.reducePow, Nat.reduceLeDiff, Int.reduceLE, Nat.reduceMul, Nat.reduceSub]
    simp only [Done, resAV, resL, resOne, look_nil, look_cons, Nat.reduceEqDiff, if_true, if_false, reduceIte, ite_true, ite_false, Nat.zero_ne_one, Nat.one_ne_zero, reduceCtorEq, true_or, or_true, true_and, Option.some.injEq, AV.lit.injEq, Value.int.injEq, Value.bool.injEq]
  have d1 : decide ((l.length : Int) > 300) = false := by simp; omega
  simp only [d1, go_sem, Nat.reduceAdd, Nat.reduceEqDiff, Nat.reduceLT, reduceIte, reduceCtorEq, Nat.reduceBEq, Int.reduceLT, Int.reduceToNat, Int.reducePow, Nat.reduceLeDiff, Int.reduceLE, Nat.reduceMul, Nat.reduceSub]
  refine callGo_pure (scalars_pure l (by omega)) (by rfl) ?_
  have hfl : (l.filter isSc).length ≤ 300 := Nat.le_trans (List.length_filter_le _ _) (by omega)
  have hapc : ((l.filter isSc).length + 1) * 4 ≤ 140737488355328 ∧ (l.filter isSc).length + 1 ≤ 9223372036854775807 ∧ True := ⟨by omega, by omega, trivial⟩
  obtain ⟨L, hL⟩ : ∃ L, L = scN l ++ [19968] := ⟨_, rfl⟩
  have eL : runes (l.filter isSc) ++ [[Value.int .i32 19968]] = runes (ofN L) := by
    rw [hL, ← scN_of]; simp [runes, ofN]
  have hS : Scs L := fun x hx => by
    rw [hL] at hx
    rcases List.mem_append.1 hx with hx | hx
    · exact scN_scs l x hx
    · simp at hx; subst hx; decide
  have hLl : L.length ≤ 301 := by rw [hL, List.length_append, scN_len]; simp; omega
  have hne := digT_ne hS (x := 19968) (by rw [hL]; simp) (by omega)
  have hpos := List.length_pos_iff.2 hne
  clear hL
  have hel := enc_length hS (by omega)
  have hsp : (encT L).length = (headT L).length + (digT L).length := List.length_append
  have ne1 : (1 = (0 : Nat)) = False := by simp
  simp only [rS, ne1, runes_length, hapc, eL, List.length_cons, List.length_nil, if_false, if_true, go_sem, Nat.reduceAdd, Nat.reduceEqDiff, Nat.reduceLT, reduceIte, reduceCtorEq, Nat.reduceBEq, Int.reduceLT, Int.reduceToNat, Int.reducePow, Nat.reduceLeDiff, Int.reduceLE, Nat.reduceMul, Nat.reduceSub]
  refine callGo_pure (Encode_pure (ofN L) (by rw [ofN_length]; omega)) (by rfl) ?_
  rw [encR_ok hS (by omega)]
  have e0 : (((encT L).length : Int) == 0) = false := by rw [beq_eq_false_iff_ne]; omega
  have w1 : IntKind.i64.wrap (((encT L).length : Int) - 1) = (((encT L).length - 1 : Nat) : Int) := by rw [wrap_i64 _ (by omega) (by omega)]; omega
  have z1 : (0 ≤ (encT L).length - 1) = True := by simp
  have z2 : ((encT L).length - 1 ≤ (encT L).length) = True := by simp
  have x1 : (txt (encT L)).extract 0 ((encT L).length - 1) = txt ((encT L).take ((encT L).length - 1)) := by rw [txt_slice, List.drop_zero]
  simp only [bne_self_eq_false, txt_size, e0, w1, z1, z2, x1, if_true, go_sem, Nat.reduceAdd, Nat.reduceEqDiff, Nat.reduceLT, reduceIte, reduceCtorEq, Nat.reduceBEq, Int.reduceLT, Int.reduceToNat, Int.reducePow, Nat.reduceLeDiff, Int.reduceLE, Nat.reduceMul, Nat.reduceSub]
  refine callGo_pure (Decode_pure ((encT L).take ((encT L).length - 1)) (fun n hn => enc_by L n (List.mem_of_mem_take hn)) (by rw [List.length_take]; omega)) (by rfl) ?_
  have w2 : IntKind.i64.wrap (lastI 45 (encT L) + 1) = ((headT L).length : Int) := by rw [last_head, wrap_i64 _ (by omega) (by omega)]; omega
  have w3 : IntKind.i64.wrap (((encT L).length : Int) - ((headT L).length : Int)) = ((digT L).length : Int) := by rw [wrap_i64 _ (by omega) (by omega)]; omega
  have w4 : IntKind.i64.wrap ((a : Int)) = (a : Int) := wrap_i64 _ (by omega) (by omega)
  have n0 : (((digT L).length : Int) = 0) = False := neI (by omega)
  have w5 : (a : Int).tmod ((digT L).length : Int) = ((a % (digT L).length : Nat) : Int) := tmodN _ _
  have hj := Nat.mod_lt a hpos
  obtain ⟨j, hjj⟩ : ∃ j, j = a % (digT L).length := ⟨_, rfl⟩
  rw [← hjj] at hj w5
  clear hjj
  have w6 : IntKind.i64.wrap (((headT L).length : Int) + (j : Int)) = (((headT L).length + j : Nat) : Int) := by rw [← Int.natCast_add]; exact wrapN _ (by omega)
  have w7 : IntKind.i64.wrap ((((headT L).length + j : Nat) : Int) + 1) = (((headT L).length + j + 1 : Nat) : Int) := by rw [wrap_i64 _ (by omega) (by omega)]; omega
  have z3 : (0 ≤ (headT L).length + j) = True := by simp
  have z4 : ((headT L).length + j ≤ (encT L).length) = True := eq_true (by omega)
  have z5 : ((headT L).length + j + 1 ≤ (encT L).length) = True := eq_true (by omega)
  have x2 : (txt (encT L)).extract 0 ((headT L).length + j) = txt ((encT L).take ((headT L).length + j)) := by rw [txt_slice, List.drop_zero]
  have x3 : (txt (encT L)).extract ((headT L).length + j + 1) (encT L).length = txt ((encT L).drop ((headT L).length + j + 1)) := txt_tail _ _
  have c1 : binStr .add (txt ((encT L).take ((headT L).length + j))) ⟨#[UInt8.ofNat c]⟩ = some (.string (txt ((encT L).take ((headT L).length + j) ++ [c]))) := cat_txt _ _ (by rw [List.length_take]; omega)
  have c2 : binStr .add (txt ((encT L).take ((headT L).length + j) ++ [c])) (txt ((encT L).drop ((headT L).length + j + 1))) = some (.string (txt (badT L j c))) := by
    simp only [binStr, txt_size]
    rw [if_neg (by rw [List.length_append, List.length_take, List.length_drop, List.length_singleton]; omega), txt_append]
    rfl
  have hby := bad_by (L := L) (j := j) (c := c) (by omega)
  have hbl := bad_len (c := c) hj
  have hbs := bad_same hS (by omega) (badT L j c)
  have hbn := bad_none (L := L) (j := j) (c := c)
  have hbe := eq_txt hby (enc_by L)
  have rest : ∀ q : AV, True := fun _ => trivial
  cases hd : decT ((encT L).take ((encT L).length - 1)) with
  | none =>
    rw [decR_none (by rw [List.length_take]; omega) hd]
    have f1 : ((40 : Int) == 0) = false := rfl
    have f2 : ((40 : Int) != 0) = true := rfl
    have f3 : ((40 : Int) != 40) = false := rfl
    simp only [decA, f1, f2, f3, go_sem, Nat.reduceAdd, Nat.reduceEqDiff, Nat.reduceLT, reduceIte, reduceCtorEq, Nat.reduceBEq, Int.reduceLT, Int.reduceToNat, Int.reducePow, Nat.reduceLeDiff, Int.reduceLE, Nat.reduceMul, Nat.reduceSub]
    refine callGo_pure (lastIx_pure (encT L) 45 (enc_by L) (by omega)) (by rfl) ?_
    simp only [w2, w3, w4, w5, w6, w7, n0, txt_size, z3, z4, z5, x2, x3, c1, c2, Nat.le_refl, if_false, if_true, go_sem, Nat.reduceAdd, Nat.reduceEqDiff, Nat.reduceLT, reduceIte, reduceCtorEq, Nat.reduceBEq, Int.reduceLT, Int.reduceToNat, Int.reducePow, Nat.reduceLeDiff, Int.reduceLE, Nat.reduceMul, Nat.reduceSub]
    refine callGo_pure (Decode_pure (badT L j c) hby (by omega)) (by rfl) ?_
    generalize badT L j c = B at *
    by_cases k1 : (97 ≤ c ∧ c ≤ 122) ∨ (48 ≤ c ∧ c ≤ 57)
    · have hk : (decide ((c : Int) ≥ 97) = true ∧ decide ((c : Int) ≤ 122) = true) ∨ (decide ((c : Int) ≥ 97) = false ∧ decide ((c : Int) ≥ 48) = true ∧ decide ((c : Int) ≤ 57) = true) := by
        simp only [decide_eq_true_eq, decide_eq_false_iff_not]; omega
      cases hb : decT B with
      | none =>
        have eB : decide (B = encT L) = false := by
          rw [decide_eq_false_iff_not, ← hbs, hb]; simp
        rw [decR_none (by omega) hb]
        have g1 : ((40 : Int) == 0) = false := rfl
        rcases hk with ⟨k2, k3⟩ | ⟨k2, k3, k4⟩
        all_goals
          try simp only [decA, g1, k2, k3, k4, hbe, eB, beq_self_eq_true, go_sem, Nat.reduceAdd, Nat.reduceEqDiff, Nat.reduceLT, reduceIte, reduceCtorEq, Nat.reduceBEq, Int.reduceLT, Int.reduceToNat, Int.reducePow, Nat.reduceLeDiff, Int.reduceLE, Nat.reduceMul, Nat.reduceSub]
          try simp only [decA, g1, k2, k3, hbe, eB, beq_self_eq_true, go_sem, Nat.reduceAdd, Nat.reduceEqDiff, Nat.reduceLT, reduceIte, reduceCtorEq, Nat.reduceBEq, Int.reduceLT, Int.reduceToNat, Int.reducePow, Nat.reduceLeDiff, Int.reduceLE, Nat.reduceMul, Nat.reduceSub]
          refine callGo_pure awake04_pure (by rfl) ?_
          simp only [go_sem, Nat.reduceAdd, Nat.reduceEqDiff, Nat.reduceLT, reduceIte, reduceCtorEq, Nat.reduceBEq, Int.reduceLT, Int.reduceToNat, Int.reducePow, Nat.reduceLeDiff, Int.reduceLE, Nat.reduceMul, Nat.reduceSub]
          simp only [Done, resAV, resL, resOne, look_nil, look_cons, Nat.reduceEqDiff, if_true, if_false, reduceIte, ite_true, ite_false, Nat.zero_ne_one, Nat.one_ne_zero, reduceCtorEq, true_or, or_true, true_and, Option.some.injEq, AV.lit.injEq, Value.int.injEq, Value.bool.injEq]
      | some m2 =>
        have eB : decide (B = encT L) = decide (m2 = L) := by
          rw [decide_eq_decide, ← hbs, hb]; simp
        have hm2 := enc_dec hb
        have hm3 := enc_ge hm2.2
        rw [hm2.1] at hm3
        rw [decR_some (by omega) hb]
        rcases hk with ⟨k2, k3⟩ | ⟨k2, k3, k4⟩
        all_goals
          try simp only [decA, k2, k3, k4, beq_self_eq_true, go_sem, Nat.reduceAdd, Nat.reduceEqDiff, Nat.reduceLT, reduceIte, reduceCtorEq, Nat.reduceBEq, Int.reduceLT, Int.reduceToNat, Int.reducePow, Nat.reduceLeDiff, Int.reduceLE, Nat.reduceMul, Nat.reduceSub]
          try simp only [decA, k2, k3, beq_self_eq_true, go_sem, Nat.reduceAdd, Nat.reduceEqDiff, Nat.reduceLT, reduceIte, reduceCtorEq, Nat.reduceBEq, Int.reduceLT, Int.reduceToNat, Int.reducePow, Nat.reduceLeDiff, Int.reduceLE, Nat.reduceMul, Nat.reduceSub]
          refine callGo_pure (Same_pure (ofN m2) (ofN L) (by rw [ofN_length]; omega)) (by rfl) ?_
          simp only [same_ofN, hbe, eB, beq_self_eq_true, go_sem, Nat.reduceAdd, Nat.reduceEqDiff, Nat.reduceLT, reduceIte, reduceCtorEq, Nat.reduceBEq, Int.reduceLT, Int.reduceToNat, Int.reducePow, Nat.reduceLeDiff, Int.reduceLE, Nat.reduceMul, Nat.reduceSub]
          refine callGo_pure awake04_pure (by rfl) ?_
          simp only [go_sem, Nat.reduceAdd, Nat.reduceEqDiff, Nat.reduceLT, reduceIte, reduceCtorEq, Nat.reduceBEq, Int.reduceLT, Int.reduceToNat, Int.reducePow, Nat.reduceLeDiff, Int.reduceLE, Nat.reduceMul, Nat.reduceSub]
          simp only [Done, resAV, resL, resOne, look_nil, look_cons, Nat.reduceEqDiff, if_true, if_false, reduceIte, ite_true, ite_false, Nat.zero_ne_one, Nat.one_ne_zero, reduceCtorEq, true_or, or_true, true_and, Option.some.injEq, AV.lit.injEq, Value.int.injEq, Value.bool.injEq]
    · have hk : (decide ((c : Int) ≥ 97) = true ∧ decide ((c : Int) ≤ 122) = false ∧ decide ((c : Int) ≥ 48) = true ∧ decide ((c : Int) ≤ 57) = false) ∨ (decide ((c : Int) ≥ 97) = false ∧ decide ((c : Int) ≥ 48) = true ∧ decide ((c : Int) ≤ 57) = false) ∨ (decide ((c : Int) ≥ 97) = false ∧ decide ((c : Int) ≥ 48) = false) := by
        simp only [decide_eq_true_eq, decide_eq_false_iff_not]; omega
      by_cases k5 : c = 45
      · have k6 : ((c : Int) == 45) = true := by subst k5; rfl
        rcases hk with ⟨r1, r2, r3, r4⟩ | ⟨r1, r2, r3⟩ | ⟨r1, r2⟩
        · rw [decide_eq_true_eq] at r1; omega
        · rw [decide_eq_true_eq] at r2; omega
        · simp only [decA, r1, r2, k6, go_sem, Nat.reduceAdd, Nat.reduceEqDiff, Nat.reduceLT, reduceIte, reduceCtorEq, Nat.reduceBEq, Int.reduceLT, Int.reduceToNat, Int.reducePow, Nat.reduceLeDiff, Int.reduceLE, Nat.reduceMul, Nat.reduceSub]
          refine callGo_pure awake04_pure (by rfl) ?_
          simp only [go_sem, Nat.reduceAdd, Nat.reduceEqDiff, Nat.reduceLT, reduceIte, reduceCtorEq, Nat.reduceBEq, Int.reduceLT, Int.reduceToNat, Int.reducePow, Nat.reduceLeDiff, Int.reduceLE, Nat.reduceMul, Nat.reduceSub]
          simp only [Done, resAV, resL, resOne, look_nil, look_cons, Nat.reduceEqDiff, if_true, if_false, reduceIte, ite_true, ite_false, Nat.zero_ne_one, Nat.one_ne_zero, reduceCtorEq, true_or, or_true, true_and, Option.some.injEq, AV.lit.injEq, Value.int.injEq, Value.bool.injEq]
      · have k6 : ((c : Int) == 45) = false := by simp; omega
        have hb := hbn (by omega) (by omega) k5
        rw [decR_none (by omega) hb]
        have g1 : ((40 : Int) == 40) = true := rfl
        rcases hk with ⟨r1, r2, r3, r4⟩ | ⟨r1, r2, r3⟩ | ⟨r1, r2⟩
        all_goals
          try simp only [decA, r1, r2, r3, r4, k6, g1, go_sem, Nat.reduceAdd, Nat.reduceEqDiff, Nat.reduceLT, reduceIte, reduceCtorEq, Nat.reduceBEq, Int.reduceLT, Int.reduceToNat, Int.reducePow, Nat.reduceLeDiff, Int.reduceLE, Nat.reduceMul, Nat.reduceSub]
          try simp only [decA, r1, r2, r3, k6, g1, go_sem, Nat.reduceAdd, Nat.reduceEqDiff, Nat.reduceLT, reduceIte, reduceCtorEq, Nat.reduceBEq, Int.reduceLT, Int.reduceToNat, Int.reducePow, Nat.reduceLeDiff, Int.reduceLE, Nat.reduceMul, Nat.reduceSub]
          try simp only [decA, r1, r2, k6, g1, go_sem, Nat.reduceAdd, Nat.reduceEqDiff, Nat.reduceLT, reduceIte, reduceCtorEq, Nat.reduceBEq, Int.reduceLT, Int.reduceToNat, Int.reducePow, Nat.reduceLeDiff, Int.reduceLE, Nat.reduceMul, Nat.reduceSub]
          refine callGo_pure awake04_pure (by rfl) ?_
          simp only [go_sem, Nat.reduceAdd, Nat.reduceEqDiff, Nat.reduceLT, reduceIte, reduceCtorEq, Nat.reduceBEq, Int.reduceLT, Int.reduceToNat, Int.reducePow, Nat.reduceLeDiff, Int.reduceLE, Nat.reduceMul, Nat.reduceSub]
          simp only [Done, resAV, resL, resOne, look_nil, look_cons, Nat.reduceEqDiff, if_true, if_false, reduceIte, ite_true, ite_false, Nat.zero_ne_one, Nat.one_ne_zero, reduceCtorEq, true_or, or_true, true_and, Option.some.injEq, AV.lit.injEq, Value.int.injEq, Value.bool.injEq]
  | some m =>
    have hm := cut_less hS (by omega) hne hd
    rw [decR_some (by rw [List.length_take]; omega) hd]
    have f1 : ((0 : Int) == 0) = true := rfl
    have f2 : ((0 : Int) != 0) = false := rfl
    have f4 : decide (m = L) = false := by rw [decide_eq_false_iff_not]; intro e; rw [e] at hm; omega
    have f5 : decide ((m.length : Int) ≥ (L.length : Int)) = false := by simp; omega
    simp only [decA, f1, f2, go_sem, Nat.reduceAdd, Nat.reduceEqDiff, Nat.reduceLT, reduceIte, reduceCtorEq, Nat.reduceBEq, Int.reduceLT, Int.reduceToNat, Int.reducePow, Nat.reduceLeDiff, Int.reduceLE, Nat.reduceMul, Nat.reduceSub]
    refine callGo_pure (Same_pure (ofN m) (ofN L) (by rw [ofN_length]; omega)) (by rfl) ?_
    simp only [same_ofN, f2, f4, f5, runes_length, ofN_length, go_sem, Nat.reduceAdd, Nat.reduceEqDiff, Nat.reduceLT, reduceIte, reduceCtorEq, Nat.reduceBEq, Int.reduceLT, Int.reduceToNat, Int.reducePow, Nat.reduceLeDiff, Int.reduceLE, Nat.reduceMul, Nat.reduceSub]
    refine callGo_pure (lastIx_pure (encT L) 45 (enc_by L) (by omega)) (by rfl) ?_
    simp only [w2, w3, w4, w5, w6, w7, n0, txt_size, z3, z4, z5, x2, x3, c1, c2, Nat.le_refl, if_false, if_true, go_sem, Nat.reduceAdd, Nat.reduceEqDiff, Nat.reduceLT, reduceIte, reduceCtorEq, Nat.reduceBEq, Int.reduceLT, Int.reduceToNat, Int.reducePow, Nat.reduceLeDiff, Int.reduceLE, Nat.reduceMul, Nat.reduceSub]
    refine callGo_pure (Decode_pure (badT L j c) hby (by omega)) (by rfl) ?_
    generalize badT L j c = B at *
    by_cases k1 : (97 ≤ c ∧ c ≤ 122) ∨ (48 ≤ c ∧ c ≤ 57)
    · have hk : (decide ((c : Int) ≥ 97) = true ∧ decide ((c : Int) ≤ 122) = true) ∨ (decide ((c : Int) ≥ 97) = false ∧ decide ((c : Int) ≥ 48) = true ∧ decide ((c : Int) ≤ 57) = true) := by
        simp only [decide_eq_true_eq, decide_eq_false_iff_not]; omega
      cases hb : decT B with
      | none =>
        have eB : decide (B = encT L) = false := by
          rw [decide_eq_false_iff_not, ← hbs, hb]; simp
        rw [decR_none (by omega) hb]
        have g1 : ((40 : Int) == 0) = false := rfl
        rcases hk with ⟨k2, k3⟩ | ⟨k2, k3, k4⟩
        all_goals
          try simp only [decA, g1, k2, k3, k4, hbe, eB, beq_self_eq_true, go_sem, Nat.reduceAdd, Nat.reduceEqDiff, Nat.reduceLT, reduceIte, reduceCtorEq, Nat.reduceBEq, Int.reduceLT, Int.reduceToNat, Int.reducePow, Nat.reduceLeDiff, Int.reduceLE, Nat.reduceMul, Nat.reduceSub]
          try simp only [decA, g1, k2, k3, hbe, eB, beq_self_eq_true, go_sem, Nat.reduceAdd, Nat.reduceEqDiff, Nat.reduceLT, reduceIte, reduceCtorEq, Nat.reduceBEq, Int.reduceLT, Int.reduceToNat, Int.reducePow, Nat.reduceLeDiff, Int.reduceLE, Nat.reduceMul, Nat.reduceSub]
          refine callGo_pure awake04_pure (by rfl) ?_
          simp only [go_sem, Nat.reduceAdd, Nat.reduceEqDiff, Nat.reduceLT, reduceIte, reduceCtorEq, Nat.reduceBEq, Int.reduceLT, Int.reduceToNat, Int.reducePow, Nat.reduceLeDiff, Int.reduceLE, Nat.reduceMul, Nat.reduceSub]
          simp only [Done, resAV, resL, resOne, look_nil, look_cons, Nat.reduceEqDiff, if_true, if_false, reduceIte, ite_true, ite_false, Nat.zero_ne_one, Nat.one_ne_zero, reduceCtorEq, true_or, or_true, true_and, Option.some.injEq, AV.lit.injEq, Value.int.injEq, Value.bool.injEq]
      | some m2 =>
        have eB : decide (B = encT L) = decide (m2 = L) := by
          rw [decide_eq_decide, ← hbs, hb]; simp
        have hm2 := enc_dec hb
        have hm3 := enc_ge hm2.2
        rw [hm2.1] at hm3
        rw [decR_some (by omega) hb]
        rcases hk with ⟨k2, k3⟩ | ⟨k2, k3, k4⟩
        all_goals
          try simp only [decA, k2, k3, k4, beq_self_eq_true, go_sem, Nat.reduceAdd, Nat.reduceEqDiff, Nat.reduceLT, reduceIte, reduceCtorEq, Nat.reduceBEq, Int.reduceLT, Int.reduceToNat, Int.reducePow, Nat.reduceLeDiff, Int.reduceLE, Nat.reduceMul, Nat.reduceSub]
          try simp only [decA, k2, k3, beq_self_eq_true, go_sem, Nat.reduceAdd, Nat.reduceEqDiff, Nat.reduceLT, reduceIte, reduceCtorEq, Nat.reduceBEq, Int.reduceLT, Int.reduceToNat, Int.reducePow, Nat.reduceLeDiff, Int.reduceLE, Nat.reduceMul, Nat.reduceSub]
          refine callGo_pure (Same_pure (ofN m2) (ofN L) (by rw [ofN_length]; omega)) (by rfl) ?_
          simp only [same_ofN, hbe, eB, beq_self_eq_true, go_sem, Nat.reduceAdd, Nat.reduceEqDiff, Nat.reduceLT, reduceIte, reduceCtorEq, Nat.reduceBEq, Int.reduceLT, Int.reduceToNat, Int.reducePow, Nat.reduceLeDiff, Int.reduceLE, Nat.reduceMul, Nat.reduceSub]
          refine callGo_pure awake04_pure (by rfl) ?_
          simp only [go_sem, Nat.reduceAdd, Nat.reduceEqDiff, Nat.reduceLT, reduceIte, reduceCtorEq, Nat.reduceBEq, Int.reduceLT, Int.reduceToNat, Int.reducePow, Nat.reduceLeDiff, Int.reduceLE, Nat.reduceMul, Nat.reduceSub]
          simp only [Done, resAV, resL, resOne, look_nil, look_cons, Nat.reduceEqDiff, if_true, if_false, reduceIte, ite_true, ite_false, Nat.zero_ne_one, Nat.one_ne_zero, reduceCtorEq, true_or, or_true, true_and, Option.some.injEq, AV.lit.injEq, Value.int.injEq, Value.bool.injEq]
    · have hk : (decide ((c : Int) ≥ 97) = true ∧ decide ((c : Int) ≤ 122) = false ∧ decide ((c : Int) ≥ 48) = true ∧ decide ((c : Int) ≤ 57) = false) ∨ (decide ((c : Int) ≥ 97) = false ∧ decide ((c : Int) ≥ 48) = true ∧ decide ((c : Int) ≤ 57) = false) ∨ (decide ((c : Int) ≥ 97) = false ∧ decide ((c : Int) ≥ 48) = false) := by
        simp only [decide_eq_true_eq, decide_eq_false_iff_not]; omega
      by_cases k5 : c = 45
      · have k6 : ((c : Int) == 45) = true := by subst k5; rfl
        rcases hk with ⟨r1, r2, r3, r4⟩ | ⟨r1, r2, r3⟩ | ⟨r1, r2⟩
        · rw [decide_eq_true_eq] at r1; omega
        · rw [decide_eq_true_eq] at r2; omega
        · simp only [decA, r1, r2, k6, go_sem, Nat.reduceAdd, Nat.reduceEqDiff, Nat.reduceLT, reduceIte, reduceCtorEq, Nat.reduceBEq, Int.reduceLT, Int.reduceToNat, Int.reducePow, Nat.reduceLeDiff, Int.reduceLE, Nat.reduceMul, Nat.reduceSub]
          refine callGo_pure awake04_pure (by rfl) ?_
          simp only [go_sem, Nat.reduceAdd, Nat.reduceEqDiff, Nat.reduceLT, reduceIte, reduceCtorEq, Nat.reduceBEq, Int.reduceLT, Int.reduceToNat, Int.reducePow, Nat.reduceLeDiff, Int.reduceLE, Nat.reduceMul, Nat.reduceSub]
          simp only [Done, resAV, resL, resOne, look_nil, look_cons, Nat.reduceEqDiff, if_true, if_false, reduceIte, ite_true, ite_false, Nat.zero_ne_one, Nat.one_ne_zero, reduceCtorEq, true_or, or_true, true_and, Option.some.injEq, AV.lit.injEq, Value.int.injEq, Value.bool.injEq]
      · have k6 : ((c : Int) == 45) = false := by simp; omega
        have hb := hbn (by omega) (by omega) k5
        rw [decR_none (by omega) hb]
        have g1 : ((40 : Int) == 40) = true := rfl
        rcases hk with ⟨r1, r2, r3, r4⟩ | ⟨r1, r2, r3⟩ | ⟨r1, r2⟩
        all_goals
          try simp only [decA, r1, r2, r3, r4, k6, g1, go_sem, Nat.reduceAdd, Nat.reduceEqDiff, Nat.reduceLT, reduceIte, reduceCtorEq, Nat.reduceBEq, Int.reduceLT, Int.reduceToNat, Int.reducePow, Nat.reduceLeDiff, Int.reduceLE, Nat.reduceMul, Nat.reduceSub]
          try simp only [decA, r1, r2, r3, k6, g1, go_sem, Nat.reduceAdd, Nat.reduceEqDiff, Nat.reduceLT, reduceIte, reduceCtorEq, Nat.reduceBEq, Int.reduceLT, Int.reduceToNat, Int.reducePow, Nat.reduceLeDiff, Int.reduceLE, Nat.reduceMul, Nat.reduceSub]
          try simp only [decA, r1, r2, k6, g1, go_sem, Nat.reduceAdd, Nat.reduceEqDiff, Nat.reduceLT, reduceIte, reduceCtorEq, Nat.reduceBEq, Int.reduceLT, Int.reduceToNat, Int.reducePow, Nat.reduceLeDiff, Int.reduceLE, Nat.reduceMul, Nat.reduceSub]
          refine callGo_pure awake04_pure (by rfl) ?_
          simp only [go_sem, Nat.reduceAdd, Nat.reduceEqDiff, Nat.reduceLT, reduceIte, reduceCtorEq, Nat.reduceBEq, Int.reduceLT, Int.reduceToNat, Int.reducePow, Nat.reduceLeDiff, Int.reduceLE, Nat.reduceMul, Nat.reduceSub]
          simp only [Done, resAV, resL, resOne, look_nil, look_cons, Nat.reduceEqDiff, if_true, if_false, reduceIte, ite_true, ite_false, Nat.zero_ne_one, Nat.one_ne_zero, reduceCtorEq, true_or, or_true, true_and, Option.some.injEq, AV.lit.injEq, Value.int.injEq, Value.bool.injEq]

theorem punyCut_any (avs : List AV) (h : Args Try.prog Try.f5.params.toList avs) : Pure Try.prog 5 avs [] (.lit (.bool true)) := by
  have hp : Try.f5.params.toList = [22, 33, 5] := by kernel_rfl
  rw [hp] at h
  obtain ⟨av0, rest0, rfl, a0, h0⟩ := h
  obtain ⟨av1, rest1, rfl, a1, h1⟩ := h0
  obtain ⟨av2, rest2, rfl, a2, rfl⟩ := h1
  obtain ⟨z0, rfl, w0, s0⟩ := arg_ints (e := 21) (k := .i32) (by kernel_rfl) (by kernel_rfl) a0
  rw [show Try.prog.bytesOf 21 = 4 from by kernel_rfl] at s0
  obtain ⟨z1, rfl, w1⟩ := arg_int (k := .u16) (by kernel_rfl) a1
  obtain ⟨z2, rfl, w2⟩ := arg_int (k := .u8) (by kernel_rfl) a2
  exact punyCut_pure z0 ⟨by omega, fun n hn => by simpa [Lit.wf, IntKind.min, IntKind.max, IntKind.signed, IntKind.bits] using w0 n hn⟩ z1 (by simpa [Lit.wf, IntKind.min, IntKind.max, IntKind.signed, IntKind.bits] using w1) z2 (by simpa [Lit.wf, IntKind.min, IntKind.max, IntKind.signed, IntKind.bits] using w2)

set_option maxRecDepth 100000 in
theorem punyCut_lifted (os : Os) (started : os.Started) (H : Type) (enc : TypeId × Value → H) :
    ReturnsInHanded {} Try.checked os 5 .any (Rows.punyCutSpec.pre6 enc Try.prog Try.f5 Rows.punyCutRow.domain false) (Rows.punyCutSpec.post enc Try.prog Try.f5 false true false false) := by
  refine law_returns (C := Try.checked) (tb := 4) (by kernel_rfl) started (by kernel_rfl) Try.func5
    (ChangeSpec.witness6 (enc := enc) (C := Try.checked) false ⟨#[], #[.slice none 0 0, .int .u16 0, .int .u8 0], []⟩ 8 (by kernel_rfl) (by kernel_rfl) (by kernel_rfl) (by kernel_rfl))
    (by kernel_rfl) (by kernel_rfl) rfl rfl (by kernel_rfl) (by kernel_rfl) ?_ punyCut_any
  intro ds hds
  have hp : Try.f5.params.toList = [22, 33, 5] := by kernel_rfl
  rw [hp] at hds
  match ds, hds with
  | [d0, d1, d2], _ => exact ⟨rfl, rfl, rfl⟩

theorem punyCut_holds : Rows.PunyCutSaid :=
  OpenClaim.holds_of_wide 5 Try.f5 rfl rfl rfl rfl rfl rfl rfl ⟨rfl, rfl, rfl, rfl, rfl⟩ rfl rfl rfl rfl rfl (by kernel_rfl) Try.func5 (by kernel_rfl)
    (of_decide_eq_true (by kernel_rfl)) (by unfold Func.isWrapper; first | (rw [if_pos (by decide +kernel)]; kernel_rfl) | (rw [if_neg (by decide +kernel)]; exact ⟨rfl, rfl⟩))
    (fun os started H enc _ => punyCut_lifted os started H enc)
end Go.Proofs.Ytmhpjoadfgplgaa
