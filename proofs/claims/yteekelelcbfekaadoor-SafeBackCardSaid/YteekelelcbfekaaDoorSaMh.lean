/-
What is shown, coded again, is the same but for letters case. Conditions: none.
-/
import Derived.Test.YteekelelcbfekaaDoorSaMg
set_option linter.unusedSimpArgs false
set_option linter.unusedVariables false
set_option linter.unusedSectionVars false

/-! ## SafN -/

namespace Go.Proofs.YteekelelcbfekaaDoor
open Go Go.Ab
def a4_5 : ACode :=
  (.seq (.reg [⟨(.some 28), (.mv (.t 7)), .none⟩, ⟨(.some 29), (.call (.f 16) [(.t 28)]), .none⟩, ⟨(.some 30), (.call (.f 15) [(.t 29)]), .none⟩, ⟨(.some 9), (.mv (.t 30)), .none⟩]) (.seq (.reg [⟨(.some
  32), (.mv (.t 0)), .none⟩, ⟨(.some 33), (.call (.f 17) [(.t 32)]), .none⟩, ⟨(.some 34), (.mv (.t 9)), .none⟩, ⟨(.some 35), (.call (.f 11) [(.t 33), (.t 34)]), .none⟩, ⟨(.some 31), (.mv (.t 35)),
  .none⟩, ⟨(.some 36), (.ext (.t 31) 0), .none⟩, ⟨(.some 37), (.ext (.t 31) 1), .none⟩, ⟨(.some 10), (.mv (.t 36)), .none⟩, ⟨(.some 11), (.mv (.t 37)), .none⟩]) (.seq (.dreg [⟨(.some 38), (.mv (.t 11)),
  .none⟩, ⟨(.some 39), (.bin .eql (.t 38) (.k (.int .i64 0))), .none⟩, ⟨(.some 40), (.mv (.t 39)), .none⟩, ⟨(.some 41), (.mv (.t 7)), (.some (40, true))⟩, ⟨(.some 42), (.mv (.t 10)), (.some (40,
  true))⟩, ⟨(.some 43), (.call (.f 18) [(.t 41), (.t 42)]), (.some (40, true))⟩, ⟨(.some 44), (.pick (.t 40) (.t 43) (.k (.bool false))), .none⟩, ⟨(.some 45), (.mv (.t 44)), .none⟩, ⟨(.some 46), (.mv
  (.t 7)), (.some (45, true))⟩, ⟨(.some 47), (.call (.f 10) [(.t 46)]), (.some (45, true))⟩, ⟨(.some 48), (.cvBS (.t 47)), (.some (45, true))⟩, ⟨(.some 49), (.mv (.t 10)), (.some (45, true))⟩, ⟨(.some
  50), (.call (.f 10) [(.t 49)]), (.some (45, true))⟩, ⟨(.some 51), (.cvBS (.t 50)), (.some (45, true))⟩, ⟨(.some 52), (.bin .eql (.t 48) (.t 51)), (.some (45, true))⟩, ⟨(.some 53), (.pick (.t 45) (.t
  52) (.k (.bool false))), .none⟩, ⟨(.some 54), (.mv (.t 53)), .none⟩, ⟨(.some 55), (.call (.f 8) []), (.some (54, true))⟩, ⟨(.some 56), (.pick (.t 54) (.t 55) (.k (.bool false))), .none⟩, ⟨(.some 6),
  (.mv (.t 56)), .none⟩]) .ret)))
def a4 : ACode :=
  (.seq (.reg [⟨(.some 6), (.mv (.k (.bool false))), .none⟩]) (.seq (.seq (.reg [⟨(.some 12), (.mv (.t 1)), .none⟩, ⟨(.some 13), (.len (.t 12)), .none⟩, ⟨(.some 14), (.bin .gtr (.t 13) (.k (.int .i64
  100))), .none⟩]) (.cond (.t 14) (.seq (.reg [⟨(.some 15), (.call (.f 8) []), .none⟩, ⟨(.some 6), (.mv (.t 15)), .none⟩]) .ret) .skip)) (.seq (.reg [⟨(.some 17), (.mv (.t 0)), .none⟩, ⟨(.some 18),
  (.call (.f 17) [(.t 17)]), .none⟩, ⟨(.some 19), (.mv (.t 1)), .none⟩, ⟨(.some 20), (.call (.f 11) [(.t 18), (.t 19)]), .none⟩, ⟨(.some 16), (.mv (.t 20)), .none⟩, ⟨(.some 21), (.ext (.t 16) 0),
  .none⟩, ⟨(.some 22), (.ext (.t 16) 1), .none⟩, ⟨(.some 7), (.mv (.t 21)), .none⟩, ⟨(.some 8), (.mv (.t 22)), .none⟩]) (.seq (.seq (.reg [⟨(.some 23), (.mv (.t 8)), .none⟩, ⟨(.some 24), (.bin .neq (.t
  23) (.k (.int .i64 0))), .none⟩]) (.cond (.t 24) (.seq (.reg [⟨(.some 6), (.mv (.k (.bool false))), .none⟩]) .ret) .skip)) (.seq (.seq (.reg [⟨(.some 25), (.mv (.t 2)), .none⟩]) (.cond (.t 25) (.reg
  [⟨(.some 26), (.mv (.t 7)), .none⟩, ⟨(.some 27), (.call (.f 12) [(.t 26)]), .none⟩, ⟨(.some 7), (.mv (.t 27)), .none⟩]) .skip)) a4_5)))))
theorem c4 : Tryd.f4.body.bind (cCode Tryd.prog 57) = some a4 := by kernel_rfl
theorem r4 : Tryd.f4.results.toList = [(.tmp 6)] := by kernel_rfl
theorem n4 : Tryd.f4.ntmps = 57 := by kernel_rfl
theorem e4 : Enters Tryd.prog 4 := Go.Ab.enters_of Tryd.func4 (by kernel_rfl) (by kernel_rfl)

theorem ofSet_pure (n : Nat) (h : n ≤ 255) : Pure Tryd.prog 17 [.lit (.int .u8 (n : Int))] [] (.lit (.int .u8 ((1 + n % 6 : Nat) : Int))) := by
  refine pure0 Tryd.func17 c17 n17 e17 r17 (by simp) (by rfl) ?_
  have e : (n : Int).tmod 6 = ((n % 6 : Nat) : Int) := by rw [Int.tmod_eq_emod_of_nonneg (by omega)]; simp
  have w : IntKind.u8.wrap (1 + ((n % 6 : Nat) : Int)) = ((1 + n % 6 : Nat) : Int) := by rw [wrap_u8 _ (by omega) (by omega)]; omega
  have n0 : ((6 : Int) = 0) = False := by simp
  simp only [a17, astart, argSlots, e, w, n0, if_false, go_sem, Nat.reduceAdd, Nat.reduceEqDiff, Nat.reduceLT, reduceIte, reduceCtorEq, Nat.reduceBEq, Int.reduceLT, Int.reduceToNat, Int.reducePow, Nat.reduceLeDiff, Int.reduceLE, Nat.reduceMul, Nat.reduceSub]
  simp only [Done, resAV, resL, resOne, look_nil, look_cons, Nat.reduceEqDiff, if_true, if_false, reduceIte, ite_true, ite_false, Nat.zero_ne_one, Nat.one_ne_zero, reduceCtorEq, true_or, or_true, true_and, Option.some.injEq, AV.lit.injEq, Value.int.injEq, Value.bool.injEq]
theorem of_set (n : Nat) : isSet ((1 + n % 6 : Nat) : Int) := by unfold isSet; omega

theorem inS_alnum {s : Int} (hs : isSet s) {c : Nat} (h : c = 37 ∨ (48 ≤ c ∧ c ≤ 57) ∨ (65 ≤ c ∧ c ≤ 90) ∨ (97 ≤ c ∧ c ≤ 122)) : inS (alsoOf s) (c : Int) = false := by
  have key : ∀ L : List Nat, (∀ c : Nat, c < 123 → (c = 37 ∨ (48 ≤ c ∧ c ≤ 57) ∨ (65 ≤ c ∧ c ≤ 90) ∨ (97 ≤ c ∧ c ≤ 122)) → inS L (c : Int) = false) → inS L (c : Int) = false := fun L k => k c (by omega) h
  rcases hs with rfl | rfl | rfl | rfl | rfl | rfl
  all_goals exact key _ (by decide +kernel)
theorem encS_free {s : Int} (hs : isSet s) (l : List Int) : ∀ c ∈ encS (alsoOf s) l, inS (alsoOf s) (c : Int) = false := fun c hc => by
  obtain ⟨r, _, h⟩ := List.mem_flatMap.1 hc
  unfold encS1 at h
  split at h
  · obtain ⟨n, hn, hm⟩ := List.mem_flatMap.1 h
    have hn := encN_octs (fixN_le r) n hn
    simp only [pctC, List.mem_cons, List.not_mem_nil, or_false] at hm
    refine inS_alnum hs ?_
    have up : ∀ v, v < 16 → (48 ≤ upH v ∧ upH v ≤ 57) ∨ (65 ≤ upH v ∧ upH v ≤ 90) := fun v hv => by unfold upH; split <;> omega
    rcases hm with rfl | rfl | rfl
    · exact .inl rfl
    · have := up (n / 16) (by omega); omega
    · have := up (n % 16) (by omega); omega
  · rename_i hin
    simp only [List.mem_singleton] at h
    have hin : inS (alsoOf s) r = false := by simpa using hin
    have h32 : 32 ≤ r := by
      unfold inS at hin
      simp only [Bool.or_eq_false_iff, decide_eq_false_iff_not] at hin
      omega
    rw [h, Int.toNat_of_nonneg (by omega)]; exact hin
theorem low_free {s : Int} (hs : isSet s) {b : List Nat} (hb : ∀ c ∈ b, inS (alsoOf s) (c : Int) = false) : ∀ c ∈ b.map lowN, inS (alsoOf s) (c : Int) = false := fun c hc => by
  obtain ⟨n, hn, rfl⟩ := List.mem_map.1 hc
  unfold lowN
  split
  · exact inS_alnum hs (by omega)
  · exact hb n hn
theorem low_le {b : List Nat} (hb : ∀ c ∈ b, c ≤ 126) : ∀ c ∈ b.map lowN, c ≤ 126 := fun c hc => by
  obtain ⟨n, hn, rfl⟩ := List.mem_map.1 hc
  have := hb n hn
  unfold lowN
  split <;> omega

set_option maxRecDepth 10000 in
set_option maxHeartbeats 1000000 in
theorem back_tail {n : Nat} (hn : n ≤ 255) {B : List Nat} (hB : ∀ c ∈ B, c ≤ 126) (hf : ∀ c ∈ B, inS (alsoOf ((1 + n % 6 : Nat) : Int)) (c : Int) = false) (hl : B.length ≤ 10000) {sl : List (Nat × Option AV)} {tp : List (Nat × TypeId)} {nx : Nat}
    (h0 : Ab.look sl 0 = some (.lit (.int .u8 (n : Int)))) (h7 : Ab.look sl 7 = some (.lit (.string (txt B)))) :
    awp Tryd.prog 0 a4_5 (fun e s => Done Tryd.prog [.tmp 6] (.lit (.bool true)) e s) ⟨sl, [], tp, nx⟩ := by
  simp only [a4_5, h0, h7, go_sem, Nat.reduceAdd, Nat.reduceEqDiff, Nat.reduceLT, reduceIte, reduceCtorEq, Nat.reduceBEq, Int.reduceLT, Int.reduceToNat, Int.reducePow, Nat.reduceLeDiff, Int.reduceLE, Nat.reduceMul, Nat.reduceSub]
  refine callGo_pure (show_pure B (fun c hc => by have := hB c hc; omega) (by omega)) (by rfl) ?_
  simp only [go_sem, Nat.reduceAdd, Nat.reduceEqDiff, Nat.reduceLT, reduceIte, reduceCtorEq, Nat.reduceBEq, Int.reduceLT, Int.reduceToNat, Int.reducePow, Nat.reduceLeDiff, Int.reduceLE, Nat.reduceMul, Nat.reduceSub]
  have hsl := showT_len 0 B
  refine callGo_pure (safeRunes_pure (showT 0 B) (by omega)) (by rfl) ?_
  simp only [h0, go_sem, Nat.reduceAdd, Nat.reduceEqDiff, Nat.reduceLT, reduceIte, reduceCtorEq, Nat.reduceBEq, Int.reduceLT, Int.reduceToNat, Int.reducePow, Nat.reduceLeDiff, Int.reduceLE, Nat.reduceMul, Nat.reduceSub]
  refine callGo_pure (ofSet_pure n hn) (by rfl) ?_
  simp only [go_sem, Nat.reduceAdd, Nat.reduceEqDiff, Nat.reduceLT, reduceIte, reduceCtorEq, Nat.reduceBEq, Int.reduceLT, Int.reduceToNat, Int.reducePow, Nat.reduceLeDiff, Int.reduceLE, Nat.reduceMul, Nat.reduceSub]
  have hrl : (rOf (showT 0 B)).length ≤ 10000 := by unfold rOf; rw [List.length_map]; omega
  refine callGo_pure (pctEncode_pure (of_set n) (rOf (showT 0 B)) (by omega)) (by rfl) ?_
  have hal := alike_show (fun c hc => by have := hB c hc; omega) hf
  have hT := encS_by (alsoOf ((1 + n % 6 : Nat) : Int)) (rOf (showT 0 B))
  generalize encS (alsoOf ((1 + n % 6 : Nat) : Int)) (rOf (showT 0 B)) = T at *
  have hTl := hal.length
  have f1 : ((0 : Int) == 0) = true := rfl
  simp only [f1, h7, go_sem, Nat.reduceAdd, Nat.reduceEqDiff, Nat.reduceLT, reduceIte, reduceCtorEq, Nat.reduceBEq, Int.reduceLT, Int.reduceToNat, Int.reducePow, Nat.reduceLeDiff, Int.reduceLE, Nat.reduceMul, Nat.reduceSub]
  refine dcallGo_pure (equalFold_pure (a := B) (b := T) (fun c hc => by have := hB c hc; omega) (fun c hc => by have := hT c hc; omega) (by omega) hal.low) (by rfl) (by rfl) ?_
  simp only [h7, go_sem, Nat.reduceAdd, Nat.reduceEqDiff, Nat.reduceLT, reduceIte, reduceCtorEq, Nat.reduceBEq, Int.reduceLT, Int.reduceToNat, Int.reducePow, Nat.reduceLeDiff, Int.reduceLE, Nat.reduceMul, Nat.reduceSub]
  have d1 := decP_le (b := B) (fun c hc => by have := hB c hc; omega)
  refine dcallGo_pure (pctDecode_pure B (fun c hc => by have := hB c hc; omega) (by omega)) (by rfl) (by rfl) ?_
  simp only [cells_bytes _ d1, go_sem, Nat.reduceAdd, Nat.reduceEqDiff, Nat.reduceLT, reduceIte, reduceCtorEq, Nat.reduceBEq, Int.reduceLT, Int.reduceToNat, Int.reducePow, Nat.reduceLeDiff, Int.reduceLE, Nat.reduceMul, Nat.reduceSub]
  refine dcallGo_pure (pctDecode_pure T (fun c hc => by have := hT c hc; omega) (by omega)) (by rfl) (by rfl) ?_
  have e1 : ∀ b : ByteArray, binStr .eql b b = some (.bool true) := fun b => by simp [binStr]
  rw [← hal.dec]
  simp only [cells_bytes _ d1, e1, go_sem, Nat.reduceAdd, Nat.reduceEqDiff, Nat.reduceLT, reduceIte, reduceCtorEq, Nat.reduceBEq, Int.reduceLT, Int.reduceToNat, Int.reducePow, Nat.reduceLeDiff, Int.reduceLE, Nat.reduceMul, Nat.reduceSub]
  refine dcallGo_pure awake25_pure (by rfl) (by rfl) ?_
  simp only [go_sem, Nat.reduceAdd, Nat.reduceEqDiff, Nat.reduceLT, reduceIte, reduceCtorEq, Nat.reduceBEq, Int.reduceLT, Int.reduceToNat, Int.reducePow, Nat.reduceLeDiff, Int.reduceLE, Nat.reduceMul, Nat.reduceSub]
  simp only [Done, resAV, resL, resOne, look_nil, look_cons, Nat.reduceEqDiff, if_true, if_false, reduceIte, ite_true, ite_false, Nat.zero_ne_one, Nat.one_ne_zero, reduceCtorEq, true_or, or_true, true_and, Option.some.injEq, AV.lit.injEq, Value.int.injEq, Value.bool.injEq]

set_option maxRecDepth 10000 in
set_option maxHeartbeats 1000000 in
theorem safeBack_pure (set : Int) (hset : 0 ≤ set ∧ set ≤ 255) (l : List Int) (hl : Runes l) (small : Bool) : Pure Tryd.prog 4 [.lit (.int .u8 set), .sl 21 (runes l) none, .lit (.bool small)] [] (.lit (.bool true)) := by
  obtain ⟨n, rfl⟩ : ∃ n : Nat, set = n := ⟨set.toNat, by omega⟩
  refine pure0 Tryd.func4 c4 n4 e4 r4 (by simp) (by rfl) ?_
  simp only [a4, astart, argSlots, runes_length, go_sem, Nat.reduceAdd, Nat.reduceEqDiff, Nat.reduceLT, reduceIte, reduceCtorEq, Nat.reduceBEq, Int.reduceLT, Int.reduceToNat, Int.reducePow, Nat.reduceLeDiff, Int.reduceLE, Nat.reduceMul, Nat.reduceSub]
  by_cases h1 : 100 < l.length
  · have d1 : decide ((l.length : Int) > 100) = true := by simp; omega
    simp only [d1, go_sem, Nat.reduceAdd, Nat.reduceEqDiff, Nat.reduceLT, reduceIte, reduceCtorEq, Nat.reduceBEq, Int.reduceLT, Int.reduceToNat, Int.reducePow, Nat.reduceLeDiff, Int.reduceLE, Nat.reduceMul, Nat.reduceSub]
    refine callGo_pure awake25_pure (by rfl) ?_
    simp only [go_sem, Nat.reduceAdd, Nat.reduceEqDiff, Nat.reduceLT, reduceIte, reduceCtorEq, Nat.reduceBEq, Int.reduceLT, Int.reduceToNat, Int.reducePow, Nat.reduceLeDiff, Int.reduceLE, Nat.reduceMul, Nat.reduceSub]
    simp only [Done, resAV, resL, resOne, look_nil, look_cons, Nat.reduceEqDiff, if_true, if_false, reduceIte, ite_true, ite_false, Nat.zero_ne_one, Nat.one_ne_zero, reduceCtorEq, true_or, or_true, true_and, Option.some.injEq, AV.lit.injEq, Value.int.injEq, Value.bool.injEq]
  have d1 : decide ((l.length : Int) > 100) = false := by simp; omega
  simp only [d1, go_sem, Nat.reduceAdd, Nat.reduceEqDiff, Nat.reduceLT, reduceIte, reduceCtorEq, Nat.reduceBEq, Int.reduceLT, Int.reduceToNat, Int.reducePow, Nat.reduceLeDiff, Int.reduceLE, Nat.reduceMul, Nat.reduceSub]
  refine callGo_pure (ofSet_pure n (by omega)) (by rfl) ?_
  simp only [go_sem, Nat.reduceAdd, Nat.reduceEqDiff, Nat.reduceLT, reduceIte, reduceCtorEq, Nat.reduceBEq, Int.reduceLT, Int.reduceToNat, Int.reducePow, Nat.reduceLeDiff, Int.reduceLE, Nat.reduceMul, Nat.reduceSub]
  refine callGo_pure (pctEncode_pure (of_set n) l (by omega)) (by rfl) ?_
  have hB := encS_by (alsoOf ((1 + n % 6 : Nat) : Int)) l
  have hf := encS_free (of_set n) l
  have hlen := encS_len (alsoOf ((1 + n % 6 : Nat) : Int)) l
  generalize encS (alsoOf ((1 + n % 6 : Nat) : Int)) l = B at *
  simp only [bne_self_eq_false, go_sem, Nat.reduceAdd, Nat.reduceEqDiff, Nat.reduceLT, reduceIte, reduceCtorEq, Nat.reduceBEq, Int.reduceLT, Int.reduceToNat, Int.reducePow, Nat.reduceLeDiff, Int.reduceLE, Nat.reduceMul, Nat.reduceSub]
  cases small with
  | false =>
    simp only [go_sem, Nat.reduceAdd, Nat.reduceEqDiff, Nat.reduceLT, reduceIte, reduceCtorEq, Nat.reduceBEq, Int.reduceLT, Int.reduceToNat, Int.reducePow, Nat.reduceLeDiff, Int.reduceLE, Nat.reduceMul, Nat.reduceSub]
    exact back_tail (by omega) hB hf (by omega) (by simp only [Ab.look, Nat.reduceEqDiff, if_true, if_false]) (by simp only [Ab.look, Nat.reduceEqDiff, if_true, if_false])
  | true =>
    simp only [go_sem, Nat.reduceAdd, Nat.reduceEqDiff, Nat.reduceLT, reduceIte, reduceCtorEq, Nat.reduceBEq, Int.reduceLT, Int.reduceToNat, Int.reducePow, Nat.reduceLeDiff, Int.reduceLE, Nat.reduceMul, Nat.reduceSub]
    refine callGo_pure (toLower_pure B (fun c hc => by have := hB c hc; omega) (by omega)) (by rfl) ?_
    simp only [go_sem, Nat.reduceAdd, Nat.reduceEqDiff, Nat.reduceLT, reduceIte, reduceCtorEq, Nat.reduceBEq, Int.reduceLT, Int.reduceToNat, Int.reducePow, Nat.reduceLeDiff, Int.reduceLE, Nat.reduceMul, Nat.reduceSub]
    exact back_tail (by omega) (low_le hB) (low_free (of_set n) hf) (by rw [List.length_map]; omega) (by simp only [Ab.look, Nat.reduceEqDiff, if_true, if_false]) (by simp only [Ab.look, Nat.reduceEqDiff, if_true, if_false])
end Go.Proofs.YteekelelcbfekaaDoor
