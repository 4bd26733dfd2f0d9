/-
PunyBack: what is told is told back. Conditions: none.
-/
import Derived.Test.YtmhpjoadfgplgaaPunW
import Derived.Test.YtmhpjoadfgplgaaRows
set_option linter.unusedSimpArgs false
set_option linter.unusedVariables false
set_option linter.unusedSectionVars false
namespace Go.Proofs.Ytmhpjoadfgplgaa
open Go Go.Ab

theorem u8_inj {a b : Nat} (ha : a ≤ 255) (hb : b ≤ 255) (h : UInt8.ofNat a = UInt8.ofNat b) : a = b := by
  have h1 := congrArg UInt8.toNat h
  simp at h1; omega
theorem txt_toList (a : List Nat) : (txt a).toList = a.map fun n => UInt8.ofNat n := by unfold txt; rw [ByteArray.toList_mk]
theorem map_u8_inj : ∀ {a b : List Nat}, (∀ n ∈ a, n ≤ 255) → (∀ n ∈ b, n ≤ 255) → (a.map fun n => UInt8.ofNat n) = (b.map fun n => UInt8.ofNat n) → a = b
  | [], [], _, _, _ => rfl
  | [], b :: bs, _, _, h => by simp at h
  | a :: l, [], _, _, h => by simp at h
  | a :: l, b :: bs, ha, hb, h => by
    simp only [List.map_cons, List.cons.injEq] at h
    rw [u8_inj (ha a (by simp)) (hb b (by simp)) h.1, map_u8_inj (fun n hn => ha n (by simp [hn])) (fun n hn => hb n (by simp [hn])) h.2]
theorem eq_txt {a b : List Nat} (ha : ∀ n ∈ a, n ≤ 255) (hb : ∀ n ∈ b, n ≤ 255) : binStr .eql (txt a) (txt b) = some (.bool (decide (a = b))) := by
  simp only [binStr, txt_toList]
  congr 2
  rw [Bool.eq_iff_iff, beq_iff_eq, decide_eq_true_eq]
  exact ⟨map_u8_inj ha hb, fun h => by rw [h]⟩
theorem ne_txt {a b : List Nat} (ha : ∀ n ∈ a, n ≤ 255) (hb : ∀ n ∈ b, n ≤ 255) : binStr .neq (txt a) (txt b) = some (.bool (!decide (a = b))) := by
  have := eq_txt ha hb
  simp only [binStr, Option.some.injEq, Value.bool.injEq] at this ⊢
  rw [this]

/-- The scalars of a row, as numbers. -/
def scN (l : List Int) : List Nat := (l.filter isSc).map Int.toNat
theorem scN_of (l : List Int) : ofN (scN l) = l.filter isSc := ofN_toNat fun x hx => (List.mem_filter.1 hx).2
theorem scN_len (l : List Int) : (scN l).length = (l.filter isSc).length := by simp [scN]
theorem scN_le (l : List Int) : (scN l).length ≤ l.length := by rw [scN_len]; exact List.length_filter_le _ _
theorem ofN_nat (L : List Nat) : (ofN L).map Int.toNat = L := by
  unfold ofN; rw [List.map_map]
  exact (List.map_congr_left fun x _ => by simp).trans (List.map_id L)
theorem scs_all {L : List Nat} (h : Scs L) : (ofN L).all isSc = true := List.all_eq_true.2 fun x hx => by
  unfold ofN at hx
  obtain ⟨y, hy, rfl⟩ := List.mem_map.1 hx
  exact h y hy
theorem scN_scs (l : List Int) : Scs (scN l) := fun x hx => by
  obtain ⟨y, hy, rfl⟩ := List.mem_map.1 hx
  have hs := (List.mem_filter.1 hy).2
  have h0 : 0 ≤ y := by simp [isSc] at hs; omega
  rw [Int.toNat_of_nonneg h0]; exact hs
theorem encR_ok {L : List Nat} (h : Scs L) (hl : L.length ≤ 2000) : encR (ofN L) = (txt (encT L), 0) := by
  unfold encR
  rw [if_neg (by rw [ofN_length]; omega), if_pos (scs_all h), ofN_nat]
theorem enc_by (L : List Nat) : ∀ x ∈ encT L, x ≤ 255 := fun x hx => by
  unfold encT at hx
  rcases List.mem_append.1 hx with hx | hx
  · rcases List.mem_append.1 hx with hx | hx
    · have := (List.mem_filter.1 hx).2
      simp at this; omega
    · unfold dash at hx
      split at hx
      · cases hx
      · simp at hx; omega
  · have := txS_dig _ _ _ x hx; omega
theorem dash_len (P : List Nat) : (dash P).length ≤ 1 := by unfold dash; split <;> simp
theorem enc_length {L : List Nat} (h : Scs L) (hl : L.length ≤ 2000) : (encT L).length ≤ 13 * L.length + 1 := by
  have h1 := opsF_length L h.le
  have h2 := txS_len (opsF L 128) 128 0 (pln L).length 72 true (ok_opsF L) (fun x hx => h.le _ (opsF_mem hx)) (by unfold pln; omega)
  have h3 := dash_len (pln L)
  have h4 : (pln L).length = (L.filter fun x => decide (x < 128)).length := rfl
  unfold encT
  rw [List.length_append, List.length_append]
  omega
theorem txS_ge : ∀ (l : List (Nat × Nat)) (b : Nat) (f : Bool), l.length ≤ (txS b f l).length
  | [], _, _ => Nat.zero_le _
  | (d, h) :: r, b, f => by
    have := txS_ge r (adp d h f) false
    have h2 := List.length_pos_iff.2 (stepS_ne d b)
    rw [txS, List.length_append, List.length_cons]; omega
theorem enc_ge {L : List Nat} (h : Scs L) : L.length ≤ (encT L).length := by
  have h1 := opsF_length L h.le
  have h2 := txS_ge (dls 128 0 (pln L).length (opsF L 128)) 72 true
  rw [dls_length] at h2
  have h4 : (pln L).length = (L.filter fun x => decide (x < 128)).length := rfl
  unfold encT
  rw [List.length_append, List.length_append]
  omega
theorem all_filter (l : List Int) : ((((l.filter isSc).length : Nat) : Int) == (l.length : Int)) = l.all isSc := by
  rw [Bool.eq_iff_iff, beq_iff_eq, List.all_eq_true, Int.natCast_inj]
  constructor
  · intro h x hx
    have := List.Sublist.eq_of_length List.filter_sublist h
    exact List.filter_eq_self.1 this x hx
  · intro h
    rw [List.filter_eq_self.2 h]
theorem encR_err {l : List Int} (h : l.length ≤ 2000) : ((encR l).2 == 0) = l.all isSc := by
  unfold encR
  rw [if_neg (by omega)]
  cases l.all isSc <;> rfl
theorem decR_enc {L : List Nat} (h : Scs L) (hl : L.length ≤ 700) : decR (encT L) = (L, 0) := decR_some (by have := enc_length h (by omega); omega) (dec_enc h (by omega))
def a4 : ACode :=
  (.seq (.reg [⟨(.some 6), (.mv (.k (.bool false))), .none⟩]) (.seq (.seq (.reg [⟨(.some 21), (.mv (.t 0)), .none⟩, ⟨(.some 22), (.len (.t 21)), .none⟩, ⟨(.some 23), (.bin .gtr (.t 22) (.k (.int .i64
  300))), .none⟩, ⟨(.some 24), (.mv (.t 23)), .none⟩, ⟨(.some 25), (.mv (.t 1)), (.some (24, false))⟩, ⟨(.some 26), (.len (.t 25)), (.some (24, false))⟩, ⟨(.some 27), (.bin .gtr (.t 26) (.k (.int .i64
  300))), (.some (24, false))⟩, ⟨(.some 28), (.pick (.t 24) (.k (.bool true)) (.t 27)), .none⟩, ⟨(.some 29), (.mv (.t 28)), .none⟩, ⟨(.some 30), (.mv (.t 2)), (.some (29, false))⟩, ⟨(.some 31), (.lenS
  (.t 30)), (.some (29, false))⟩, ⟨(.some 32), (.bin .gtr (.t 31) (.k (.int .i64 600))), (.some (29, false))⟩, ⟨(.some 33), (.pick (.t 29) (.k (.bool true)) (.t 32)), .none⟩]) (.cond (.t 33) (.seq (.reg
  [⟨(.some 34), (.call (.f 14) []), .none⟩, ⟨(.some 6), (.mv (.t 34)), .none⟩]) .ret) .skip)) (.seq (.seq (.reg [⟨(.some 36), (.mv (.t 0)), .none⟩, ⟨(.some 37), (.call (.f 15) [(.t 36)]), .none⟩,
  ⟨(.some 35), (.mv (.t 37)), .none⟩, ⟨(.some 38), (.ext (.t 35) 0), .none⟩, ⟨(.some 39), (.ext (.t 35) 1), .none⟩, ⟨(.some 7), (.mv (.t 38)), .none⟩, ⟨(.some 8), (.mv (.t 39)), .none⟩]) (.seq (.reg
  [⟨(.some 40), (.mv (.t 8)), .none⟩, ⟨(.some 41), (.bin .eql (.t 40) (.k (.int .i64 0))), .none⟩, ⟨(.some 42), (.mv (.t 0)), .none⟩, ⟨(.some 43), (.call (.f 20) [(.t 42)]), .none⟩, ⟨(.some 44), (.len
  (.t 43)), .none⟩, ⟨(.some 45), (.mv (.t 0)), .none⟩, ⟨(.some 46), (.len (.t 45)), .none⟩, ⟨(.some 47), (.bin .eql (.t 44) (.t 46)), .none⟩, ⟨(.some 48), (.eqB true (.t 41) (.t 47)), .none⟩]) (.cond
  (.t 48) (.seq (.reg [⟨(.some 6), (.mv (.k (.bool false))), .none⟩]) .ret) .skip))) (.seq (.reg [⟨(.some 49), (.mv (.t 0)), .none⟩, ⟨(.some 50), (.call (.f 20) [(.t 49)]), .none⟩, ⟨(.some 51), (.mv (.t
  1)), .none⟩, ⟨(.some 52), (.call (.f 20) [(.t 51)]), .none⟩, ⟨(.some 9), (.mv (.t 50)), .none⟩, ⟨(.some 10), (.mv (.t 52)), .none⟩]) (.seq (.reg [⟨(.some 54), (.mv (.t 9)), .none⟩, ⟨(.some 55), (.call
  (.f 15) [(.t 54)]), .none⟩, ⟨(.some 53), (.mv (.t 55)), .none⟩, ⟨(.some 56), (.ext (.t 53) 0), .none⟩, ⟨(.some 57), (.ext (.t 53) 1), .none⟩, ⟨(.some 11), (.mv (.t 56)), .none⟩, ⟨(.some 12), (.mv (.t
  57)), .none⟩]) (.seq (.reg [⟨(.some 59), (.mv (.t 10)), .none⟩, ⟨(.some 60), (.call (.f 15) [(.t 59)]), .none⟩, ⟨(.some 58), (.mv (.t 60)), .none⟩, ⟨(.some 61), (.ext (.t 58) 0), .none⟩, ⟨(.some 62),
  (.ext (.t 58) 1), .none⟩, ⟨(.some 13), (.mv (.t 61)), .none⟩, ⟨(.some 14), (.mv (.t 62)), .none⟩]) (.seq (.seq (.reg [⟨(.some 63), (.mv (.t 12)), .none⟩, ⟨(.some 64), (.bin .neq (.t 63) (.k (.int .i64
  0))), .none⟩, ⟨(.some 65), (.mv (.t 64)), .none⟩, ⟨(.some 66), (.mv (.t 14)), (.some (65, false))⟩, ⟨(.some 67), (.bin .neq (.t 66) (.k (.int .i64 0))), (.some (65, false))⟩, ⟨(.some 68), (.pick (.t
  65) (.k (.bool true)) (.t 67)), .none⟩, ⟨(.some 69), (.mv (.t 68)), .none⟩, ⟨(.some 70), (.mv (.t 11)), (.some (69, false))⟩, ⟨(.some 71), (.mv (.t 13)), (.some (69, false))⟩, ⟨(.some 72), (.bin .eql
  (.t 70) (.t 71)), (.some (69, false))⟩, ⟨(.some 73), (.mv (.t 9)), (.some (69, false))⟩, ⟨(.some 74), (.mv (.t 10)), (.some (69, false))⟩, ⟨(.some 75), (.call (.f 19) [(.t 73), (.t 74)]), (.some (69,
  false))⟩, ⟨(.some 76), (.eqB true (.t 72) (.t 75)), (.some (69, false))⟩, ⟨(.some 77), (.pick (.t 69) (.k (.bool true)) (.t 76)), .none⟩]) (.cond (.t 77) (.seq (.reg [⟨(.some 6), (.mv (.k (.bool
  false))), .none⟩]) .ret) .skip)) (.seq (.reg [⟨(.some 79), (.mv (.t 11)), .none⟩, ⟨(.some 80), (.call (.f 17) [(.t 79)]), .none⟩, ⟨(.some 78), (.mv (.t 80)), .none⟩, ⟨(.some 81), (.ext (.t 78) 0),
  .none⟩, ⟨(.some 82), (.ext (.t 78) 1), .none⟩, ⟨(.some 15), (.mv (.t 81)), .none⟩, ⟨(.some 16), (.mv (.t 82)), .none⟩]) (.seq (.seq (.reg [⟨(.some 83), (.mv (.t 16)), .none⟩, ⟨(.some 84), (.bin .neq
  (.t 83) (.k (.int .i64 0))), .none⟩, ⟨(.some 85), (.mv (.t 84)), .none⟩, ⟨(.some 86), (.mv (.t 15)), (.some (85, false))⟩, ⟨(.some 87), (.mv (.t 9)), (.some (85, false))⟩, ⟨(.some 88), (.call (.f 19)
  [(.t 86), (.t 87)]), (.some (85, false))⟩, ⟨(.some 89), (.not (.t 88)), (.some (85, false))⟩, ⟨(.some 90), (.pick (.t 85) (.k (.bool true)) (.t 89)), .none⟩]) (.cond (.t 90) (.seq (.reg [⟨(.some 6),
  (.mv (.k (.bool false))), .none⟩]) .ret) .skip)) (.seq (.seq (.reg [⟨(.some 92), (.mv (.t 2)), .none⟩, ⟨(.some 93), (.call (.f 17) [(.t 92)]), .none⟩, ⟨(.some 91), (.mv (.t 93)), .none⟩, ⟨(.some 94),
  (.ext (.t 91) 0), .none⟩, ⟨(.some 95), (.ext (.t 91) 1), .none⟩, ⟨(.some 17), (.mv (.t 94)), .none⟩, ⟨(.some 18), (.mv (.t 95)), .none⟩]) (.seq (.reg [⟨(.some 96), (.mv (.t 18)), .none⟩, ⟨(.some 97),
  (.bin .eql (.t 96) (.k (.int .i64 0))), .none⟩]) (.cond (.t 97) (.seq (.reg [⟨(.some 99), (.mv (.t 17)), .none⟩, ⟨(.some 100), (.call (.f 15) [(.t 99)]), .none⟩, ⟨(.some 98), (.mv (.t 100)), .none⟩,
  ⟨(.some 101), (.ext (.t 98) 0), .none⟩, ⟨(.some 102), (.ext (.t 98) 1), .none⟩, ⟨(.some 19), (.mv (.t 101)), .none⟩, ⟨(.some 20), (.mv (.t 102)), .none⟩]) (.seq (.reg [⟨(.some 103), (.mv (.t 20)),
  .none⟩, ⟨(.some 104), (.bin .neq (.t 103) (.k (.int .i64 0))), .none⟩, ⟨(.some 105), (.mv (.t 104)), .none⟩, ⟨(.some 106), (.mv (.t 19)), (.some (105, false))⟩, ⟨(.some 107), (.mv (.t 2)), (.some
  (105, false))⟩, ⟨(.some 108), (.bin .neq (.t 106) (.t 107)), (.some (105, false))⟩, ⟨(.some 109), (.pick (.t 105) (.k (.bool true)) (.t 108)), .none⟩]) (.cond (.t 109) (.seq (.reg [⟨(.some 6), (.mv
  (.k (.bool false))), .none⟩]) .ret) .skip))) .skip))) (.seq (.reg [⟨(.some 110), (.call (.f 14) []), .none⟩, ⟨(.some 6), (.mv (.t 110)), .none⟩]) .ret)))))))))))
theorem c4 : Try.f4.body.bind (cCode Try.prog 111) = some a4 := by kernel_rfl
theorem r4 : Try.f4.results.toList = [(.tmp 6)] := by kernel_rfl
theorem n4 : Try.f4.ntmps = 111 := by kernel_rfl
theorem e4 : Enters Try.prog 4 := enters_of Try.func4 (by kernel_rfl) (by kernel_rfl)

set_option maxRecDepth 10000 in
set_option maxHeartbeats 1000000 in
theorem punyBack_pure (l : List Int) (hl : Runes l) (o : List Int) (ho : Runes o) (z : ByteArray) (hz : z.size ≤ 140737488351232) : Pure Try.prog 4 [rS l none, rS o none, .lit (.string z)] [] (.lit (.bool true)) := by
  obtain ⟨s, rfl, hs, hsl⟩ := txt_of z
  rw [← hsl] at hz
  refine pure0 Try.func4 c4 n4 e4 r4 (by simp) (by rfl) ?_
  simp only [a4, astart, argSlots, runes_length, go_sem, Nat.reduceAdd, Nat.reduceEqDiff, Nat.reduceLT, reduceIte, reduceCtorEq, Nat.reduceBEq, Int.reduceLT, Int.reduceToNat, Int.reducePow, Nat.reduceLeDiff, Int.reduceLE, Nat.reduceMul, Nat.reduceSub]
  by_cases h1 : 300 < l.length
  · have d1 : decide ((l.length : Int) > 300) = true := by simp; omega
    simp only [d1, go_sem, Nat.reduceAdd, Nat.reduceEqDiff, Nat.reduceLT, reduceIte, reduceCtorEq, Nat.reduceBEq, Int.reduceLT, Int.reduceToNat, Int.reducePow, Nat.reduceLeDiff, Int.reduceLE, Nat.reduceMul, Nat.reduceSub]
    refine callGo_pure awake04_pure (by rfl) ?_
    simp only [go_sem, Nat.reduceAdd, Nat.reduceEqDiff, Nat.reduceLT, reduceIte, reduceCtorEq, Nat.reduceBEq, Int.reduceLT, Int.reduceToNat, Int.reducePow, Nat.reduceLeDiff, Int.reduceLE, Nat.reduceMul, Nat.reduceSub]
    simp only [Done, resAV, resL, resOne, look_nil, look_cons, Nat.reduceEqDiff, if_true, if_false, reduceIte, ite_true, ite_false, Nat.zero_ne_one, Nat.one_ne_zero, reduceCtorEq, true_or, or_true, true_and, Option.some.injEq, AV.lit.injEq, Value.int.injEq, Value.bool.injEq]
  have d1 : decide ((l.length : Int) > 300) = false := by simp; omega
  by_cases h2 : 300 < o.length
  · have d2 : decide ((o.length : Int) > 300) = true := by simp; omega
    simp only [d1, d2, runes_length, go_sem, Nat.reduceAdd, Nat.reduceEqDiff, Nat.reduceLT, reduceIte, reduceCtorEq, Nat.reduceBEq, Int.reduceLT, Int.reduceToNat, Int.reducePow, Nat.reduceLeDiff, Int.reduceLE, Nat.reduceMul, Nat.reduceSub]
    refine callGo_pure awake04_pure (by rfl) ?_
    simp only [go_sem, Nat.reduceAdd, Nat.reduceEqDiff, Nat.reduceLT, reduceIte, reduceCtorEq, Nat.reduceBEq, Int.reduceLT, Int.reduceToNat, Int.reducePow, Nat.reduceLeDiff, Int.reduceLE, Nat.reduceMul, Nat.reduceSub]
    simp only [Done, resAV, resL, resOne, look_nil, look_cons, Nat.reduceEqDiff, if_true, if_false, reduceIte, ite_true, ite_false, Nat.zero_ne_one, Nat.one_ne_zero, reduceCtorEq, true_or, or_true, true_and, Option.some.injEq, AV.lit.injEq, Value.int.injEq, Value.bool.injEq]
  have d2 : decide ((o.length : Int) > 300) = false := by simp; omega
  by_cases h3 : 600 < s.length
  · have d3 : decide ((s.length : Int) > 600) = true := by simp; omega
    simp only [d1, d2, d3, txt_size, runes_length, go_sem, Nat.reduceAdd, Nat.reduceEqDiff, Nat.reduceLT, reduceIte, reduceCtorEq, Nat.reduceBEq, Int.reduceLT, Int.reduceToNat, Int.reducePow, Nat.reduceLeDiff, Int.reduceLE, Nat.reduceMul, Nat.reduceSub]
    refine callGo_pure awake04_pure (by rfl) ?_
    simp only [go_sem, Nat.reduceAdd, Nat.reduceEqDiff, Nat.reduceLT, reduceIte, reduceCtorEq, Nat.reduceBEq, Int.reduceLT, Int.reduceToNat, Int.reducePow, Nat.reduceLeDiff, Int.reduceLE, Nat.reduceMul, Nat.reduceSub]
    simp only [Done, resAV, resL, resOne, look_nil, look_cons, Nat.reduceEqDiff, if_true, if_false, reduceIte, ite_true, ite_false, Nat.zero_ne_one, Nat.one_ne_zero, reduceCtorEq, true_or, or_true, true_and, Option.some.injEq, AV.lit.injEq, Value.int.injEq, Value.bool.injEq]
  have d3 : decide ((s.length : Int) > 600) = false := by simp; omega
  simp only [d1, d2, d3, txt_size, runes_length, go_sem, Nat.reduceAdd, Nat.reduceEqDiff, Nat.reduceLT, reduceIte, reduceCtorEq, Nat.reduceBEq, Int.reduceLT, Int.reduceToNat, Int.reducePow, Nat.reduceLeDiff, Int.reduceLE, Nat.reduceMul, Nat.reduceSub]
  refine callGo_pure (Encode_pure l (by omega)) (by rfl) ?_
  simp only [encR_err (show l.length ≤ 2000 by omega), go_sem, Nat.reduceAdd, Nat.reduceEqDiff, Nat.reduceLT, reduceIte, reduceCtorEq, Nat.reduceBEq, Int.reduceLT, Int.reduceToNat, Int.reducePow, Nat.reduceLeDiff, Int.reduceLE, Nat.reduceMul, Nat.reduceSub]
  refine callGo_pure (scalars_pure l (by omega)) (by rfl) ?_
  simp only [runes_length, all_filter, bne_self_eq_false, beq_self_eq_true, Bool.not_true, go_sem, Nat.reduceAdd, Nat.reduceEqDiff, Nat.reduceLT, reduceIte, reduceCtorEq, Nat.reduceBEq, Int.reduceLT, Int.reduceToNat, Int.reducePow, Nat.reduceLeDiff, Int.reduceLE, Nat.reduceMul, Nat.reduceSub]
  refine callGo_pure (scalars_pure l (by omega)) (by rfl) ?_
  simp only [go_sem, Nat.reduceAdd, Nat.reduceEqDiff, Nat.reduceLT, reduceIte, reduceCtorEq, Nat.reduceBEq, Int.reduceLT, Int.reduceToNat, Int.reducePow, Nat.reduceLeDiff, Int.reduceLE, Nat.reduceMul, Nat.reduceSub]
  refine callGo_pure (scalars_pure o (by omega)) (by rfl) ?_
  have hX := scN_scs l
  have hXl := scN_le l
  have hY := scN_scs o
  have hYl := scN_le o
  have eX := scN_of l
  have eY := scN_of o
  rw [← eX, ← eY]
  clear eX eY
  generalize scN l = X at *
  generalize scN o = Y at *
  simp only [go_sem, Nat.reduceAdd, Nat.reduceEqDiff, Nat.reduceLT, reduceIte, reduceCtorEq, Nat.reduceBEq, Int.reduceLT, Int.reduceToNat, Int.reducePow, Nat.reduceLeDiff, Int.reduceLE, Nat.reduceMul, Nat.reduceSub]
  refine callGo_pure (Encode_pure (ofN X) (by rw [ofN_length]; omega)) (by rfl) ?_
  rw [encR_ok hX (by omega)]
  simp only [go_sem, Nat.reduceAdd, Nat.reduceEqDiff, Nat.reduceLT, reduceIte, reduceCtorEq, Nat.reduceBEq, Int.reduceLT, Int.reduceToNat, Int.reducePow, Nat.reduceLeDiff, Int.reduceLE, Nat.reduceMul, Nat.reduceSub]
  refine callGo_pure (Encode_pure (ofN Y) (by rw [ofN_length]; omega)) (by rfl) ?_
  rw [encR_ok hY (by omega)]
  simp only [bne_self_eq_false, beq_self_eq_true, Bool.not_true, eq_txt (enc_by X) (enc_by Y), go_sem, Nat.reduceAdd, Nat.reduceEqDiff, Nat.reduceLT, reduceIte, reduceCtorEq, Nat.reduceBEq, Int.reduceLT, Int.reduceToNat, Int.reducePow, Nat.reduceLeDiff, Int.reduceLE, Nat.reduceMul, Nat.reduceSub]
  refine callGo_pure (Same_pure (ofN X) (ofN Y) (by rw [ofN_length]; omega)) (by rfl) ?_
  have eS : (ofN X == ofN Y) = decide (encT X = encT Y) := by
    rw [Bool.eq_iff_iff, beq_iff_eq, decide_eq_true_eq]
    constructor
    · intro h
      have := congrArg (List.map Int.toNat) h
      rw [ofN_nat, ofN_nat] at this
      rw [this]
    · intro h
      rw [enc_inj hX (by omega) hY (by omega) h]
  simp only [eS, bne_self_eq_false, beq_self_eq_true, Bool.not_true, go_sem, Nat.reduceAdd, Nat.reduceEqDiff, Nat.reduceLT, reduceIte, reduceCtorEq, Nat.reduceBEq, Int.reduceLT, Int.reduceToNat, Int.reducePow, Nat.reduceLeDiff, Int.reduceLE, Nat.reduceMul, Nat.reduceSub]
  refine callGo_pure (Decode_pure (encT X) (enc_by X) (by have := enc_length hX (by omega); omega)) (by rfl) ?_
  rw [decR_enc hX (by omega)]
  simp only [decA, bne_self_eq_false, beq_self_eq_true, Bool.not_true, go_sem, Nat.reduceAdd, Nat.reduceEqDiff, Nat.reduceLT, reduceIte, reduceCtorEq, Nat.reduceBEq, Int.reduceLT, Int.reduceToNat, Int.reducePow, Nat.reduceLeDiff, Int.reduceLE, Nat.reduceMul, Nat.reduceSub]
  refine callGo_pure (Same_pure (ofN X) (ofN X) (by rw [ofN_length]; omega)) (by rfl) ?_
  simp only [beq_self_eq_true, Bool.not_true, go_sem, Nat.reduceAdd, Nat.reduceEqDiff, Nat.reduceLT, reduceIte, reduceCtorEq, Nat.reduceBEq, Int.reduceLT, Int.reduceToNat, Int.reducePow, Nat.reduceLeDiff, Int.reduceLE, Nat.reduceMul, Nat.reduceSub]
  refine callGo_pure (Decode_pure s hs (by omega)) (by rfl) ?_
  cases hd : decT s with
  | none =>
    rw [decR_none (by omega) hd]
    have f1 : ((40 : Int) == 0) = false := rfl
    simp only [decA, f1, go_sem, Nat.reduceAdd, Nat.reduceEqDiff, Nat.reduceLT, reduceIte, reduceCtorEq, Nat.reduceBEq, Int.reduceLT, Int.reduceToNat, Int.reducePow, Nat.reduceLeDiff, Int.reduceLE, Nat.reduceMul, Nat.reduceSub]
    refine callGo_pure awake04_pure (by rfl) ?_
    simp only [go_sem, Nat.reduceAdd, Nat.reduceEqDiff, Nat.reduceLT, reduceIte, reduceCtorEq, Nat.reduceBEq, Int.reduceLT, Int.reduceToNat, Int.reducePow, Nat.reduceLeDiff, Int.reduceLE, Nat.reduceMul, Nat.reduceSub]
    simp only [Done, resAV, resL, resOne, look_nil, look_cons, Nat.reduceEqDiff, if_true, if_false, reduceIte, ite_true, ite_false, Nat.zero_ne_one, Nat.one_ne_zero, reduceCtorEq, true_or, or_true, true_and, Option.some.injEq, AV.lit.injEq, Value.int.injEq, Value.bool.injEq]
  | some c =>
    rw [decR_some (by omega) hd]
    obtain ⟨g1, g2⟩ := enc_dec hd
    have g3 := enc_ge g2
    rw [g1] at g3
    simp only [decA, beq_self_eq_true, go_sem, Nat.reduceAdd, Nat.reduceEqDiff, Nat.reduceLT, reduceIte, reduceCtorEq, Nat.reduceBEq, Int.reduceLT, Int.reduceToNat, Int.reducePow, Nat.reduceLeDiff, Int.reduceLE, Nat.reduceMul, Nat.reduceSub]
    refine callGo_pure (Encode_pure (ofN c) (by rw [ofN_length]; omega)) (by rfl) ?_
    rw [encR_ok g2 (by omega), g1]
    simp only [bne_self_eq_false, beq_self_eq_true, Bool.not_true, ne_txt hs hs, decide_true, Bool.not_true, go_sem, Nat.reduceAdd, Nat.reduceEqDiff, Nat.reduceLT, reduceIte, reduceCtorEq, Nat.reduceBEq, Int.reduceLT, Int.reduceToNat, Int.reducePow, Nat.reduceLeDiff, Int.reduceLE, Nat.reduceMul, Nat.reduceSub]
    refine callGo_pure awake04_pure (by rfl) ?_
    simp only [go_sem, Nat.reduceAdd, Nat.reduceEqDiff, Nat.reduceLT, reduceIte, reduceCtorEq, Nat.reduceBEq, Int.reduceLT, Int.reduceToNat, Int.reducePow, Nat.reduceLeDiff, Int.reduceLE, Nat.reduceMul, Nat.reduceSub]
    simp only [Done, resAV, resL, resOne, look_nil, look_cons, Nat.reduceEqDiff, if_true, if_false, reduceIte, ite_true, ite_false, Nat.zero_ne_one, Nat.one_ne_zero, reduceCtorEq, true_or, or_true, true_and, Option.some.injEq, AV.lit.injEq, Value.int.injEq, Value.bool.injEq]

theorem punyBack_any (avs : List AV) (h : Args Try.prog Try.f4.params.toList avs) : Pure Try.prog 4 avs [] (.lit (.bool true)) := by
  have hp : Try.f4.params.toList = [22, 22, 9] := by kernel_rfl
  rw [hp] at h
  obtain ⟨av0, rest0, rfl, a0, h0⟩ := h
  obtain ⟨av1, rest1, rfl, a1, h1⟩ := h0
  obtain ⟨av2, rest2, rfl, a2, rfl⟩ := h1
  obtain ⟨z0, rfl, w0, s0⟩ := arg_ints (e := 21) (k := .i32) (by kernel_rfl) (by kernel_rfl) a0
  rw [show Try.prog.bytesOf 21 = 4 from by kernel_rfl] at s0
  obtain ⟨z1, rfl, w1, s1⟩ := arg_ints (e := 21) (k := .i32) (by kernel_rfl) (by kernel_rfl) a1
  rw [show Try.prog.bytesOf 21 = 4 from by kernel_rfl] at s1
  obtain ⟨z2, rfl, w2⟩ := arg_str (by kernel_rfl) a2
  exact punyBack_pure z0 ⟨by omega, fun n hn => by simpa [Lit.wf, IntKind.min, IntKind.max, IntKind.signed, IntKind.bits] using w0 n hn⟩ z1 ⟨by omega, fun n hn => by simpa [Lit.wf, IntKind.min, IntKind.max, IntKind.signed, IntKind.bits] using w1 n hn⟩ z2 w2

set_option maxRecDepth 100000 in
theorem punyBack_lifted (os : Os) (started : os.Started) (H : Type) (enc : TypeId × Value → H) :
    ReturnsInHanded {} Try.checked os 4 .any (Rows.punyBackSpec.pre6 enc Try.prog Try.f4 Rows.punyBackRow.domain false) (Rows.punyBackSpec.post enc Try.prog Try.f4 false true false false) := by
  refine law_returns (C := Try.checked) (tb := 4) (by kernel_rfl) started (by kernel_rfl) Try.func4
    (ChangeSpec.witness6 (enc := enc) (C := Try.checked) false ⟨#[], #[.slice none 0 0, .slice none 0 0, .string ⟨#[]⟩], []⟩ 8 (by kernel_rfl) (by kernel_rfl) (by kernel_rfl) (by kernel_rfl))
    (by kernel_rfl) (by kernel_rfl) rfl rfl (by kernel_rfl) (by kernel_rfl) ?_ punyBack_any
  intro ds hds
  have hp : Try.f4.params.toList = [22, 22, 9] := by kernel_rfl
  rw [hp] at hds
  match ds, hds with
  | [d0, d1, d2], _ => exact ⟨rfl, rfl, rfl⟩

theorem punyBack_holds : Rows.PunyBackSaid :=
  OpenClaim.holds_of_wide 4 Try.f4 rfl rfl rfl rfl rfl rfl rfl ⟨rfl, rfl, rfl, rfl, rfl⟩ rfl rfl rfl rfl rfl (by kernel_rfl) Try.func4 (by kernel_rfl)
    (of_decide_eq_true (by kernel_rfl)) (by unfold Func.isWrapper; first | (rw [if_pos (by decide +kernel)]; kernel_rfl) | (rw [if_neg (by decide +kernel)]; exact ⟨rfl, rfl⟩))
    (fun os started H enc _ => punyBack_lifted os started H enc)
end Go.Proofs.Ytmhpjoadfgplgaa
