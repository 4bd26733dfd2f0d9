/-
Of two scalars the greater one has the greater bytes, and none has fewer bytes than a smaller one; the examples hold: so the law answers true, whatever it is handed. Conditions: none.
-/
import Derived.Test.YtbnaepdeakcljaaUtf6
import Derived.Test.YtbnaepdeakcljaaRows
set_option linter.unusedSimpArgs false
set_option linter.unusedVariables false
set_option linter.unusedSectionVars false
namespace Go.Proofs.Ytbnaepdeakcljaa
open Go Go.Ab Go.ChangeShapes Go.WideShapes Go.ChangeAt Go.RowKit
def a19 : ACode :=
  (.seq (.reg [⟨(.some 0), (.mv (.k (.bool false))), .none⟩]) (.seq (.reg [⟨(.some 3), (.bs 5 1 [(.k (.int .u8 226)), (.k (.int .u8 130)), (.k (.int .u8 172))]), .none⟩, ⟨(.some 4), (.call (.f 14) [(.t
  3)]), .none⟩, ⟨(.some 1), (.mv (.t 4)), .none⟩]) (.seq (.reg [⟨(.some 5), (.bs 5 1 [(.k (.int .u8 226)), (.k (.int .u8 130)), (.k (.int .u8 65))]), .none⟩, ⟨(.some 6), (.call (.f 14) [(.t 5)]),
  .none⟩, ⟨(.some 2), (.mv (.t 6)), .none⟩]) (.seq (.reg [⟨(.some 7), (.mv (.t 1)), .none⟩, ⟨(.some 8), (.bd [(.int .i32 0), (.int .i64 0), (.int .i64 0)] [(0, (1, (.k (.int .i32 8364)))), (2, (1, (.k
  (.int .i64 3))))]), .none⟩, ⟨(.some 9), (.bs 27 3 [(.t 8)]), .none⟩, ⟨(.some 10), (.call (.f 22) [(.t 7), (.t 9)]), .none⟩, ⟨(.some 11), (.mv (.t 10)), .none⟩, ⟨(.some 12), (.mv (.t 2)), (.some (11,
  true))⟩, ⟨(.some 13), (.bd [(.int .i32 0), (.int .i64 0), (.int .i64 0)] [(0, (1, (.k (.int .i32 65533)))), (2, (1, (.k (.int .i64 2))))]), (.some (11, true))⟩, ⟨(.some 14), (.bd [(.int .i32 0), (.int
  .i64 0), (.int .i64 0)] [(0, (1, (.k (.int .i32 65)))), (1, (1, (.k (.int .i64 2)))), (2, (1, (.k (.int .i64 3))))]), (.some (11, true))⟩, ⟨(.some 15), (.bs 27 3 [(.t 13), (.t 14)]), (.some (11,
  true))⟩, ⟨(.some 16), (.call (.f 22) [(.t 12), (.t 15)]), (.some (11, true))⟩, ⟨(.some 17), (.pick (.t 11) (.t 16) (.k (.bool false))), .none⟩, ⟨(.some 18), (.mv (.t 17)), .none⟩, ⟨(.some 19), (.bs 5
  1 [(.k (.int .u8 240)), (.k (.int .u8 128))]), (.some (18, true))⟩, ⟨(.some 20), (.call (.f 15) [(.t 19)]), (.some (18, true))⟩, ⟨(.some 21), (.len (.t 20)), (.some (18, true))⟩, ⟨(.some 22), (.bin
  .eql (.t 21) (.k (.int .i64 2))), (.some (18, true))⟩, ⟨(.some 23), (.pick (.t 18) (.t 22) (.k (.bool false))), .none⟩, ⟨(.some 24), (.mv (.t 23)), .none⟩, ⟨(.some 25), (.bs 5 1 [(.k (.int .u8 237)),
  (.k (.int .u8 160)), (.k (.int .u8 128))]), (.some (24, true))⟩, ⟨(.some 26), (.call (.f 15) [(.t 25)]), (.some (24, true))⟩, ⟨(.some 27), (.len (.t 26)), (.some (24, true))⟩, ⟨(.some 28), (.bin .eql
  (.t 27) (.k (.int .i64 3))), (.some (24, true))⟩, ⟨(.some 29), (.pick (.t 24) (.t 28) (.k (.bool false))), .none⟩, ⟨(.some 30), (.mv (.t 29)), .none⟩, ⟨(.some 31), (.bs 21 1 [(.k (.int .i32 55296))]),
  (.some (30, true))⟩, ⟨(.some 32), (.call (.f 17) [(.t 31)]), (.some (30, true))⟩, ⟨(.some 33), (.bs 5 1 [(.k (.int .u8 239)), (.k (.int .u8 191)), (.k (.int .u8 189))]), (.some (30, true))⟩, ⟨(.some
  34), (.call (.f 18) [(.t 32), (.t 33)]), (.some (30, true))⟩, ⟨(.some 35), (.pick (.t 30) (.t 34) (.k (.bool false))), .none⟩, ⟨(.some 0), (.mv (.t 35)), .none⟩]) .ret))))
theorem c19 : Try.f19.body.bind (cCode Try.prog 36) = some a19 := by kernel_rfl
theorem r19 : Try.f19.results.toList = [(.tmp 0)] := by kernel_rfl
theorem n19 : Try.f19.ntmps = 36 := by kernel_rfl
theorem e19 : Enters Try.prog 19 := enters_of Try.func19 (by kernel_rfl) (by kernel_rfl)
def a4 : ACode :=
  (.seq (.reg [⟨(.some 4), (.mv (.k (.bool false))), .none⟩]) (.seq (.seq (.reg [⟨(.some 7), (.mv (.t 0)), .none⟩, ⟨(.some 8), (.call (.f 20) [(.t 7)]), .none⟩, ⟨(.some 9), (.not (.t 8)), .none⟩,
  ⟨(.some 10), (.mv (.t 9)), .none⟩, ⟨(.some 11), (.mv (.t 1)), (.some (10, false))⟩, ⟨(.some 12), (.call (.f 20) [(.t 11)]), (.some (10, false))⟩, ⟨(.some 13), (.not (.t 12)), (.some (10, false))⟩,
  ⟨(.some 14), (.pick (.t 10) (.k (.bool true)) (.t 13)), .none⟩]) (.cond (.t 14) (.seq (.reg [⟨(.some 15), (.call (.f 19) []), .none⟩, ⟨(.some 4), (.mv (.t 15)), .none⟩]) .ret) .skip)) (.seq (.reg
  [⟨(.some 16), (.mv (.t 0)), .none⟩, ⟨(.some 17), (.bs 21 1 [(.t 16)]), .none⟩, ⟨(.some 18), (.call (.f 17) [(.t 17)]), .none⟩, ⟨(.some 19), (.mv (.t 1)), .none⟩, ⟨(.some 20), (.bs 21 1 [(.t 19)]),
  .none⟩, ⟨(.some 21), (.call (.f 17) [(.t 20)]), .none⟩, ⟨(.some 5), (.mv (.t 18)), .none⟩, ⟨(.some 6), (.mv (.t 21)), .none⟩]) (.seq (.reg [⟨(.some 22), (.mv (.t 5)), .none⟩, ⟨(.some 23), (.cvBS (.t
  22)), .none⟩, ⟨(.some 24), (.mv (.t 6)), .none⟩, ⟨(.some 25), (.cvBS (.t 24)), .none⟩, ⟨(.some 26), (.bin .lss (.t 23) (.t 25)), .none⟩, ⟨(.some 27), (.mv (.t 0)), .none⟩, ⟨(.some 28), (.mv (.t 1)),
  .none⟩, ⟨(.some 29), (.bin .lss (.t 27) (.t 28)), .none⟩, ⟨(.some 30), (.eqB false (.t 26) (.t 29)), .none⟩, ⟨(.some 31), (.mv (.t 30)), .none⟩, ⟨(.some 32), (.mv (.t 0)), (.some (31, true))⟩, ⟨(.some
  33), (.mv (.t 1)), (.some (31, true))⟩, ⟨(.some 34), (.bin .gtr (.t 32) (.t 33)), (.some (31, true))⟩, ⟨(.some 35), (.mv (.t 34)), (.some (31, true))⟩, ⟨(.some 36), (.mv (.t 5)), (.some (35, false))⟩,
  ⟨(.some 37), (.len (.t 36)), (.some (35, false))⟩, ⟨(.some 38), (.mv (.t 6)), (.some (35, false))⟩, ⟨(.some 39), (.len (.t 38)), (.some (35, false))⟩, ⟨(.some 40), (.bin .leq (.t 37) (.t 39)), (.some
  (35, false))⟩, ⟨(.some 41), (.pick (.t 35) (.k (.bool true)) (.t 40)), (.some (31, true))⟩, ⟨(.some 42), (.pick (.t 31) (.t 41) (.k (.bool false))), .none⟩, ⟨(.some 43), (.mv (.t 42)), .none⟩, ⟨(.some
  44), (.call (.f 19) []), (.some (43, true))⟩, ⟨(.some 45), (.pick (.t 43) (.t 44) (.k (.bool false))), .none⟩, ⟨(.some 4), (.mv (.t 45)), .none⟩]) .ret))))
theorem c4 : Try.f4.body.bind (cCode Try.prog 46) = some a4 := by kernel_rfl
theorem r4 : Try.f4.results.toList = [(.tmp 4)] := by kernel_rfl
theorem n4 : Try.f4.ntmps = 46 := by kernel_rfl
theorem e4 : Enters Try.prog 4 := enters_of Try.func4 (by kernel_rfl) (by kernel_rfl)

theorem codesAt_pure (b : List Nat) (l : List (Nat × Nat × Nat)) (hb : ∀ n ∈ b, n ≤ 255) (hl : b.length ≤ 1099511627776) (h : (cut 0 b).map trip = l) : Pure Try.prog 14 [.sl 5 (octs b) none] [27] (.sl 27 (codesT l) (some 0)) := by
  subst h
  rw [← codesC_T]
  exact codes_pure b hb hl
theorem decodeAt_pure (b : List Nat) (l : List Int) (hb : ∀ n ∈ b, n ≤ 255) (hl : b.length ≤ 1099511627776) (h : decL b = l) : Pure Try.prog 15 [.sl 5 (octs b) none] [21] (.sl 21 (runes l) (some 0)) := by
  subst h; exact decode_pure b hb hl
theorem encodeAt_pure (l : List Int) (b : List Nat) (hl : l.length ≤ 1099511627776) (h : encL l = b) : Pure Try.prog 17 [.sl 21 (runes l) none] [5] (.sl 5 (octs b) (some 0)) := by
  subst h; exact encode_pure l hl

theorem cast22 : (((2 : Nat) : Int) == 2) = true := rfl
theorem cast33 : (((3 : Nat) : Int) == 3) = true := rfl

set_option maxRecDepth 10000 in
theorem awake01_pure : Pure Try.prog 19 [] [] (.lit (.bool true)) := by
  refine pure0 Try.func19 c19 n19 e19 r19 (by simp) rfl ?_
  simp only [a19, astart, argSlots, go_sem, Nat.reduceAdd, Nat.reduceEqDiff, Nat.reduceLT, reduceIte, reduceCtorEq, Nat.reduceBEq, Int.reduceLT, Int.reduceToNat, Int.reducePow, Nat.reduceLeDiff, Int.reduceLE, Nat.reduceMul, Nat.reduceSub]
  refine callGo_pure (codesAt_pure [226, 130, 172] [(8364, 0, 3)] (by simp) (by simp) (by decide +kernel)) (by rfl) ?_
  simp only [go_sem, Nat.reduceAdd, Nat.reduceEqDiff, Nat.reduceLT, reduceIte, reduceCtorEq, Nat.reduceBEq, Int.reduceLT, Int.reduceToNat, Int.reducePow, Nat.reduceLeDiff, Int.reduceLE, Nat.reduceMul, Nat.reduceSub]
  refine callGo_pure (codesAt_pure [226, 130, 65] [(65533, 0, 2), (65, 2, 3)] (by simp) (by simp) (by decide +kernel)) (by rfl) ?_
  simp only [go_sem, Nat.reduceAdd, Nat.reduceEqDiff, Nat.reduceLT, reduceIte, reduceCtorEq, Nat.reduceBEq, Int.reduceLT, Int.reduceToNat, Int.reducePow, Nat.reduceLeDiff, Int.reduceLE, Nat.reduceMul, Nat.reduceSub]
  refine callGo_pure (sameCodes_pure [(8364, 0, 3)] [(8364, 0, 3)] (by simp)) (by rfl) ?_
  simp only [go_sem, Nat.reduceAdd, Nat.reduceEqDiff, Nat.reduceLT, reduceIte, reduceCtorEq, Nat.reduceBEq, Int.reduceLT, Int.reduceToNat, Int.reducePow, Nat.reduceLeDiff, Int.reduceLE, Nat.reduceMul, Nat.reduceSub, beq_self_eq_true]
  refine callGo_pure (sameCodes_pure [(65533, 0, 2), (65, 2, 3)] [(65533, 0, 2), (65, 2, 3)] (by simp)) (by rfl) ?_
  simp only [go_sem, Nat.reduceAdd, Nat.reduceEqDiff, Nat.reduceLT, reduceIte, reduceCtorEq, Nat.reduceBEq, Int.reduceLT, Int.reduceToNat, Int.reducePow, Nat.reduceLeDiff, Int.reduceLE, Nat.reduceMul, Nat.reduceSub, beq_self_eq_true]
  refine callGo_pure (decodeAt_pure [240, 128] [65533, 65533] (by simp) (by simp) (by decide +kernel)) (by rfl) ?_
  simp only [go_sem, Nat.reduceAdd, Nat.reduceEqDiff, Nat.reduceLT, reduceIte, reduceCtorEq, Nat.reduceBEq, Int.reduceLT, Int.reduceToNat, Int.reducePow, Nat.reduceLeDiff, Int.reduceLE, Nat.reduceMul, Nat.reduceSub, cast22]
  refine callGo_pure (decodeAt_pure [237, 160, 128] [65533, 65533, 65533] (by simp) (by simp) (by decide +kernel)) (by rfl) ?_
  simp only [go_sem, Nat.reduceAdd, Nat.reduceEqDiff, Nat.reduceLT, reduceIte, reduceCtorEq, Nat.reduceBEq, Int.reduceLT, Int.reduceToNat, Int.reducePow, Nat.reduceLeDiff, Int.reduceLE, Nat.reduceMul, Nat.reduceSub, cast33]
  refine callGo_pure (encodeAt_pure [55296] [239, 191, 189] (by simp) (by decide +kernel)) (by rfl) ?_
  simp only [go_sem, Nat.reduceAdd, Nat.reduceEqDiff, Nat.reduceLT, reduceIte, reduceCtorEq, Nat.reduceBEq, Int.reduceLT, Int.reduceToNat, Int.reducePow, Nat.reduceLeDiff, Int.reduceLE, Nat.reduceMul, Nat.reduceSub, beq_self_eq_true]
  refine callGo_pure (same_pure [239, 191, 189] [239, 191, 189] (by simp) (by simp)) (by rfl) ?_
  simp only [go_sem, Nat.reduceAdd, Nat.reduceEqDiff, Nat.reduceLT, reduceIte, reduceCtorEq, Nat.reduceBEq, Int.reduceLT, Int.reduceToNat, Int.reducePow, Nat.reduceLeDiff, Int.reduceLE, Nat.reduceMul, Nat.reduceSub, beq_self_eq_true]
  simp only [Done, resAV, resL, resOne, look_nil, look_cons, Nat.reduceEqDiff, if_true, if_false, reduceIte, ite_true, ite_false, Nat.zero_ne_one, Nat.one_ne_zero, reduceCtorEq, true_or, or_true, true_and, Option.some.injEq, AV.lit.injEq, Value.int.injEq, Value.bool.injEq]

def lessN : List Nat → List Nat → Bool
  | _, [] => false
  | [], _ :: _ => true
  | a :: x, b :: y => decide (a < b) || (a == b && lessN x y)

theorem less_bytes {a b : List Nat} (ha : ∀ n ∈ a, n ≤ 255) (hb : ∀ n ∈ b, n ≤ 255) : Op.bytesLess (a.map fun n => UInt8.ofNat n) (b.map fun n => UInt8.ofNat n) = lessN a b := by
  induction a generalizing b with
  | nil => cases b <;> rfl
  | cons x a ih =>
    cases b with
    | nil => rfl
    | cons y b =>
      have hx := ha x (by simp)
      have hy := hb y (by simp)
      have h1 := ih (b := b) (fun n hn => ha n (by simp [hn])) (fun n hn => hb n (by simp [hn]))
      have ex : (UInt8.ofNat x).toNat = x := by simp only [UInt8.toNat_ofNat']; omega
      have ey : (UInt8.ofNat y).toNat = y := by simp only [UInt8.toNat_ofNat']; omega
      have h2 : (UInt8.ofNat x == UInt8.ofNat y) = (x == y) := by
        rw [Bool.eq_iff_iff]
        simp only [beq_iff_eq]
        exact ⟨fun h => by rw [← ex, ← ey, h], fun h => by rw [h]⟩
      have h3 : decide (UInt8.ofNat x < UInt8.ofNat y) = decide (x < y) := by
        rw [decide_eq_decide, UInt8.lt_iff_toNat_lt, ex, ey]
      simp only [List.map_cons, Op.bytesLess, lessN, h1, h2, h3]

theorem enc_less {r s : Nat} (hr : r ≤ 1114111) (hs : s ≤ 1114111) : lessN (encN r) (encN s) = decide (r < s) := by
  rcases enc_cases r with h | ⟨h1, h2⟩ | ⟨h1, h2⟩ | h <;> rcases enc_cases s with g | ⟨g1, g2⟩ | ⟨g1, g2⟩ | g
  · rw [enc1 h, enc1 g, Bool.eq_iff_iff]; simp only [lessN, Bool.or_eq_true, Bool.and_eq_true, decide_eq_true_eq, beq_iff_eq, Bool.false_eq_true, and_false, or_false]
  · rw [enc1 h, enc2 g1 g2, Bool.eq_iff_iff]; simp only [lessN, Bool.or_eq_true, Bool.and_eq_true, decide_eq_true_eq, beq_iff_eq, Bool.false_eq_true, and_false, or_false]; omega
  · rw [enc1 h, enc3 g1 g2, Bool.eq_iff_iff]; simp only [lessN, Bool.or_eq_true, Bool.and_eq_true, decide_eq_true_eq, beq_iff_eq, Bool.false_eq_true, and_false, or_false]; omega
  · rw [enc1 h, enc4 g, Bool.eq_iff_iff]; simp only [lessN, Bool.or_eq_true, Bool.and_eq_true, decide_eq_true_eq, beq_iff_eq, Bool.false_eq_true, and_false, or_false]; omega
  · rw [enc2 h1 h2, enc1 g, Bool.eq_iff_iff]; simp only [lessN, Bool.or_eq_true, Bool.and_eq_true, decide_eq_true_eq, beq_iff_eq, Bool.false_eq_true, and_false, or_false]; omega
  · rw [enc2 h1 h2, enc2 g1 g2, Bool.eq_iff_iff]; simp only [lessN, Bool.or_eq_true, Bool.and_eq_true, decide_eq_true_eq, beq_iff_eq, Bool.false_eq_true, and_false, or_false]; omega
  · rw [enc2 h1 h2, enc3 g1 g2, Bool.eq_iff_iff]; simp only [lessN, Bool.or_eq_true, Bool.and_eq_true, decide_eq_true_eq, beq_iff_eq, Bool.false_eq_true, and_false, or_false]; omega
  · rw [enc2 h1 h2, enc4 g, Bool.eq_iff_iff]; simp only [lessN, Bool.or_eq_true, Bool.and_eq_true, decide_eq_true_eq, beq_iff_eq, Bool.false_eq_true, and_false, or_false]; omega
  · rw [enc3 h1 h2, enc1 g, Bool.eq_iff_iff]; simp only [lessN, Bool.or_eq_true, Bool.and_eq_true, decide_eq_true_eq, beq_iff_eq, Bool.false_eq_true, and_false, or_false]; omega
  · rw [enc3 h1 h2, enc2 g1 g2, Bool.eq_iff_iff]; simp only [lessN, Bool.or_eq_true, Bool.and_eq_true, decide_eq_true_eq, beq_iff_eq, Bool.false_eq_true, and_false, or_false]; omega
  · rw [enc3 h1 h2, enc3 g1 g2, Bool.eq_iff_iff]; simp only [lessN, Bool.or_eq_true, Bool.and_eq_true, decide_eq_true_eq, beq_iff_eq, Bool.false_eq_true, and_false, or_false]; omega
  · rw [enc3 h1 h2, enc4 g, Bool.eq_iff_iff]; simp only [lessN, Bool.or_eq_true, Bool.and_eq_true, decide_eq_true_eq, beq_iff_eq, Bool.false_eq_true, and_false, or_false]; omega
  · rw [enc4 h, enc1 g, Bool.eq_iff_iff]; simp only [lessN, Bool.or_eq_true, Bool.and_eq_true, decide_eq_true_eq, beq_iff_eq, Bool.false_eq_true, and_false, or_false]; omega
  · rw [enc4 h, enc2 g1 g2, Bool.eq_iff_iff]; simp only [lessN, Bool.or_eq_true, Bool.and_eq_true, decide_eq_true_eq, beq_iff_eq, Bool.false_eq_true, and_false, or_false]; omega
  · rw [enc4 h, enc3 g1 g2, Bool.eq_iff_iff]; simp only [lessN, Bool.or_eq_true, Bool.and_eq_true, decide_eq_true_eq, beq_iff_eq, Bool.false_eq_true, and_false, or_false]; omega
  · rw [enc4 h, enc4 g, Bool.eq_iff_iff]; simp only [lessN, Bool.or_eq_true, Bool.and_eq_true, decide_eq_true_eq, beq_iff_eq, Bool.false_eq_true, and_false, or_false]; omega

theorem enc_len_mono {r s : Nat} (h : r ≤ s) : (encN r).length ≤ (encN s).length := by
  rcases enc_cases r with h1 | ⟨h1, h2⟩ | ⟨h1, h2⟩ | h1 <;> rcases enc_cases s with g1 | ⟨g1, g2⟩ | ⟨g1, g2⟩ | g1 <;>
    first | omega | (simp only [encN]; (repeat' split) <;> first | omega | simp)

theorem encL_one (r : Int) : encL [r] = encN (fixN r) := by simp [encL]
theorem runes_one (r : Int) : [[Value.int .i32 r]] = runes [r] := rfl

set_option maxRecDepth 10000 in
theorem utfOrder_pure (r : Int) (_ : -2147483648 ≤ r ∧ r ≤ 2147483647) (s : Int) (_ : -2147483648 ≤ s ∧ s ≤ 2147483647) : Pure Try.prog 4 [.lit (.int .i32 r), .lit (.int .i32 s)] [] (.lit (.bool true)) := by
  refine pure0 Try.func4 c4 n4 e4 r4 (by simp) rfl ?_
  simp only [a4, astart, argSlots, go_sem, Nat.reduceAdd, Nat.reduceEqDiff, Nat.reduceLT, reduceIte, reduceCtorEq, Nat.reduceBEq, Int.reduceLT, Int.reduceToNat, Int.reducePow, Nat.reduceLeDiff, Int.reduceLE, Nat.reduceMul, Nat.reduceSub]
  refine callGo_pure (scalar_pure r) (by rfl) ?_
  simp only [go_sem, Nat.reduceAdd, Nat.reduceEqDiff, Nat.reduceLT, reduceIte, reduceCtorEq, Nat.reduceBEq, Int.reduceLT, Int.reduceToNat, Int.reducePow, Nat.reduceLeDiff, Int.reduceLE, Nat.reduceMul, Nat.reduceSub]
  by_cases hr : scalarB r = true
  · simp only [hr, go_sem, Nat.reduceAdd, Nat.reduceEqDiff, Nat.reduceLT, reduceIte, reduceCtorEq, Nat.reduceBEq, Int.reduceLT, Int.reduceToNat, Int.reducePow, Nat.reduceLeDiff, Int.reduceLE, Nat.reduceMul, Nat.reduceSub]
    refine callGo_pure (scalar_pure s) (by rfl) ?_
    simp only [go_sem, Nat.reduceAdd, Nat.reduceEqDiff, Nat.reduceLT, reduceIte, reduceCtorEq, Nat.reduceBEq, Int.reduceLT, Int.reduceToNat, Int.reducePow, Nat.reduceLeDiff, Int.reduceLE, Nat.reduceMul, Nat.reduceSub]
    by_cases hs : scalarB s = true
    · simp only [hs, go_sem, Nat.reduceAdd, Nat.reduceEqDiff, Nat.reduceLT, reduceIte, reduceCtorEq, Nat.reduceBEq, Int.reduceLT, Int.reduceToNat, Int.reducePow, Nat.reduceLeDiff, Int.reduceLE, Nat.reduceMul, Nat.reduceSub]
      refine callGo_pure (encode_pure [r] (by simp)) (by rfl) ?_
      simp only [go_sem, Nat.reduceAdd, Nat.reduceEqDiff, Nat.reduceLT, reduceIte, reduceCtorEq, Nat.reduceBEq, Int.reduceLT, Int.reduceToNat, Int.reducePow, Nat.reduceLeDiff, Int.reduceLE, Nat.reduceMul, Nat.reduceSub]
      refine callGo_pure (encode_pure [s] (by simp)) (by rfl) ?_
      have er := fixN_of hr
      have es := fixN_of hs
      have hle := fixN_le r
      have hls := fixN_le s
      have h1 := less_bytes (encN_octs hle) (encN_octs hls)
      rw [enc_less hle hls] at h1
      have hm := @enc_len_mono (fixN r) (fixN s)
      have ho1 := encN_octs hle
      have ho2 := encN_octs hls
      rw [encL_one, encL_one]
      generalize fixN r = x at er hle h1 hm ho1 ⊢
      generalize fixN s = y at es hls h1 hm ho2 ⊢
      subst er; subst es
      simp only [go_sem, Nat.reduceAdd, Nat.reduceEqDiff, Nat.reduceLT, reduceIte, reduceCtorEq, Nat.reduceBEq, Int.reduceLT, Int.reduceToNat, Int.reducePow, Nat.reduceLeDiff, Int.reduceLE, Nat.reduceMul, Nat.reduceSub, cells_bytes _ ho1, cells_bytes _ ho2, binStr, ByteArray.toList_mk, List.toList_toArray, h1]
      have h2 : (decide (x < y) == decide ((x : Int) < (y : Int))) = true := by
        rw [beq_iff_eq, decide_eq_decide]; omega
      simp only [h2, go_sem, Nat.reduceAdd, Nat.reduceEqDiff, Nat.reduceLT, reduceIte, reduceCtorEq, Nat.reduceBEq, Int.reduceLT, Int.reduceToNat, Int.reducePow, Nat.reduceLeDiff, Int.reduceLE, Nat.reduceMul, Nat.reduceSub]
      by_cases h3 : x > y
      · have b3 : decide ((x : Int) > (y : Int)) = true := by simp only [decide_eq_true_eq]; omega
        simp only [b3, go_sem, Nat.reduceAdd, Nat.reduceEqDiff, Nat.reduceLT, reduceIte, reduceCtorEq, Nat.reduceBEq, Int.reduceLT, Int.reduceToNat, Int.reducePow, Nat.reduceLeDiff, Int.reduceLE, Nat.reduceMul, Nat.reduceSub]
        refine callGo_pure awake01_pure (by rfl) ?_
        simp only [go_sem, Nat.reduceAdd, Nat.reduceEqDiff, Nat.reduceLT, reduceIte, reduceCtorEq, Nat.reduceBEq, Int.reduceLT, Int.reduceToNat, Int.reducePow, Nat.reduceLeDiff, Int.reduceLE, Nat.reduceMul, Nat.reduceSub]
        simp only [Done, resAV, resL, resOne, look_nil, look_cons, Nat.reduceEqDiff, if_true, if_false, reduceIte, ite_true, ite_false, Nat.zero_ne_one, Nat.one_ne_zero, reduceCtorEq, true_or, or_true, true_and, Option.some.injEq, AV.lit.injEq, Value.int.injEq, Value.bool.injEq]
      · have b3 : decide ((x : Int) > (y : Int)) = false := by simp only [decide_eq_false_iff_not]; omega
        have b4 : decide (((encN x).length : Int) ≤ ((encN y).length : Int)) = true := by simp only [decide_eq_true_eq]; have := hm (by omega); omega
        simp only [b3, b4, go_sem, Nat.reduceAdd, Nat.reduceEqDiff, Nat.reduceLT, reduceIte, reduceCtorEq, Nat.reduceBEq, Int.reduceLT, Int.reduceToNat, Int.reducePow, Nat.reduceLeDiff, Int.reduceLE, Nat.reduceMul, Nat.reduceSub]
        refine callGo_pure awake01_pure (by rfl) ?_
        simp only [go_sem, Nat.reduceAdd, Nat.reduceEqDiff, Nat.reduceLT, reduceIte, reduceCtorEq, Nat.reduceBEq, Int.reduceLT, Int.reduceToNat, Int.reducePow, Nat.reduceLeDiff, Int.reduceLE, Nat.reduceMul, Nat.reduceSub]
        simp only [Done, resAV, resL, resOne, look_nil, look_cons, Nat.reduceEqDiff, if_true, if_false, reduceIte, ite_true, ite_false, Nat.zero_ne_one, Nat.one_ne_zero, reduceCtorEq, true_or, or_true, true_and, Option.some.injEq, AV.lit.injEq, Value.int.injEq, Value.bool.injEq]
    · have hs : scalarB s = false := by simpa using hs
      simp only [hs, go_sem, Nat.reduceAdd, Nat.reduceEqDiff, Nat.reduceLT, reduceIte, reduceCtorEq, Nat.reduceBEq, Int.reduceLT, Int.reduceToNat, Int.reducePow, Nat.reduceLeDiff, Int.reduceLE, Nat.reduceMul, Nat.reduceSub]
      refine callGo_pure awake01_pure (by rfl) ?_
      simp only [go_sem, Nat.reduceAdd, Nat.reduceEqDiff, Nat.reduceLT, reduceIte, reduceCtorEq, Nat.reduceBEq, Int.reduceLT, Int.reduceToNat, Int.reducePow, Nat.reduceLeDiff, Int.reduceLE, Nat.reduceMul, Nat.reduceSub]
      simp only [Done, resAV, resL, resOne, look_nil, look_cons, Nat.reduceEqDiff, if_true, if_false, reduceIte, ite_true, ite_false, Nat.zero_ne_one, Nat.one_ne_zero, reduceCtorEq, true_or, or_true, true_and, Option.some.injEq, AV.lit.injEq, Value.int.injEq, Value.bool.injEq]
  · have hr : scalarB r = false := by simpa using hr
    simp only [hr, go_sem, Nat.reduceAdd, Nat.reduceEqDiff, Nat.reduceLT, reduceIte, reduceCtorEq, Nat.reduceBEq, Int.reduceLT, Int.reduceToNat, Int.reducePow, Nat.reduceLeDiff, Int.reduceLE, Nat.reduceMul, Nat.reduceSub]
    refine callGo_pure awake01_pure (by rfl) ?_
    simp only [go_sem, Nat.reduceAdd, Nat.reduceEqDiff, Nat.reduceLT, reduceIte, reduceCtorEq, Nat.reduceBEq, Int.reduceLT, Int.reduceToNat, Int.reducePow, Nat.reduceLeDiff, Int.reduceLE, Nat.reduceMul, Nat.reduceSub]
    simp only [Done, resAV, resL, resOne, look_nil, look_cons, Nat.reduceEqDiff, if_true, if_false, reduceIte, ite_true, ite_false, Nat.zero_ne_one, Nat.one_ne_zero, reduceCtorEq, true_or, or_true, true_and, Option.some.injEq, AV.lit.injEq, Value.int.injEq, Value.bool.injEq]

theorem utfOrder_any (avs : List AV) (h : Args Try.prog Try.f4.params.toList avs) : Pure Try.prog 4 avs [] (.lit (.bool true)) := by
  have hp : Try.f4.params.toList = [21, 21] := by kernel_rfl
  rw [hp] at h
  obtain ⟨av0, rest0, rfl, a0, h0⟩ := h
  obtain ⟨av1, rest1, rfl, a1, rfl⟩ := h0
  obtain ⟨z0, rfl, w0⟩ := arg_int (k := .i32) (by kernel_rfl) a0
  obtain ⟨z1, rfl, w1⟩ := arg_int (k := .i32) (by kernel_rfl) a1
  exact utfOrder_pure z0 (by simpa [Lit.wf, IntKind.min, IntKind.max, IntKind.signed, IntKind.bits] using w0) z1 (by simpa [Lit.wf, IntKind.min, IntKind.max, IntKind.signed, IntKind.bits] using w1)

set_option maxRecDepth 100000 in
theorem utfOrder_lifted (os : Os) (started : os.Started) (H : Type) (enc : TypeId × Value → H) :
    ReturnsInHanded {} Try.checked os 4 .any (Rows.utfOrderSpec.pre6 enc Try.prog Try.f4 Rows.utfOrderRow.domain false) (Rows.utfOrderSpec.post enc Try.prog Try.f4 false true false false) := by
  refine law_returns (C := Try.checked) (tb := 4) (by kernel_rfl) started (by kernel_rfl) Try.func4
    (ChangeSpec.witness6 (enc := enc) (C := Try.checked) false ⟨#[], #[.int .i32 0, .int .i32 0], []⟩ 8 (by kernel_rfl) (by kernel_rfl) (by kernel_rfl) (by kernel_rfl))
    (by kernel_rfl) (by kernel_rfl) rfl rfl (by kernel_rfl) (by kernel_rfl) ?_ utfOrder_any
  intro ds hds
  have hp : Try.f4.params.toList = [21, 21] := by kernel_rfl
  rw [hp] at hds
  match ds, hds with
  | [d0, d1], _ => exact ⟨rfl, rfl, rfl⟩

theorem utfOrder_holds : Rows.UtfOrderSaid :=
  OpenClaim.holds_of_wide 4 Try.f4 rfl rfl rfl rfl rfl rfl rfl ⟨rfl, rfl, rfl, rfl, rfl⟩ rfl rfl rfl rfl rfl (by kernel_rfl) Try.func4 (by kernel_rfl)
    (of_decide_eq_true (by kernel_rfl)) (by unfold Func.isWrapper; first | (rw [if_pos (by decide +kernel)]; kernel_rfl) | (rw [if_neg (by decide +kernel)]; exact ⟨rfl, rfl⟩))
    (fun os started H enc _ => utfOrder_lifted os started H enc)
end Go.Proofs.Ytbnaepdeakcljaa
