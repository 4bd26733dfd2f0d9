/-
THE STATEMENT NormParts. A row that is cut ahead of a plain letter is put together, and taken apart, part by part. Conditions: none.
-/
import Derived.Test.YtmhpjoadfgplgaaNrmK
set_option linter.unusedSimpArgs false
set_option linter.unusedVariables false
set_option linter.unusedSectionVars false
namespace Go.Proofs.Ytmhpjoadfgplgaa
open Go Go.Ab
def a10 : ACode :=
  (.seq (.reg [⟨(.some 6), (.mv (.k (.bool false))), .none⟩]) (.seq (.seq (.reg [⟨(.some 8), (.mv (.t 0)), .none⟩, ⟨(.some 9), (.len (.t 8)), .none⟩, ⟨(.some 10), (.bin .gtr (.t 9) (.k (.int .i64
  100))), .none⟩, ⟨(.some 11), (.mv (.t 10)), .none⟩, ⟨(.some 12), (.mv (.t 1)), (.some (11, false))⟩, ⟨(.some 13), (.len (.t 12)), (.some (11, false))⟩, ⟨(.some 14), (.bin .gtr (.t 13) (.k (.int .i64
  100))), (.some (11, false))⟩, ⟨(.some 15), (.pick (.t 11) (.k (.bool true)) (.t 14)), .none⟩]) (.cond (.t 15) (.seq (.reg [⟨(.some 16), (.call (.f 24) []), .none⟩, ⟨(.some 6), (.mv (.t 16)), .none⟩])
  .ret) .skip)) (.seq (.reg [⟨(.some 17), (.mv (.t 2)), .none⟩, ⟨(.some 18), (.bin .rem (.t 17) (.k (.int .u8 26))), .none⟩, ⟨(.some 19), (.cvI .i32 (.t 18)), .none⟩, ⟨(.some 20), (.bin .add (.k (.int
  .i32 97)) (.t 19)), .none⟩, ⟨(.some 21), (.bs 21 1 [(.t 20)]), .none⟩, ⟨(.some 22), (.mv (.t 1)), .none⟩, ⟨(.some 23), (.app 21 4 (.t 21) (.t 22)), .none⟩, ⟨(.some 1), (.mv (.t 23)), .none⟩]) (.seq
  (.reg [⟨(.some 24), (.bs 21 1 []), .none⟩, ⟨(.some 25), (.mv (.t 0)), .none⟩, ⟨(.some 26), (.app 21 4 (.t 24) (.t 25)), .none⟩, ⟨(.some 27), (.mv (.t 1)), .none⟩, ⟨(.some 28), (.app 21 4 (.t 26) (.t
  27)), .none⟩, ⟨(.some 7), (.mv (.t 28)), .none⟩]) (.seq (.reg [⟨(.some 29), (.mv (.t 7)), .none⟩, ⟨(.some 30), (.call (.f 28) [(.t 29)]), .none⟩, ⟨(.some 31), (.mv (.t 0)), .none⟩, ⟨(.some 32), (.call
  (.f 28) [(.t 31)]), .none⟩, ⟨(.some 33), (.mv (.t 1)), .none⟩, ⟨(.some 34), (.call (.f 28) [(.t 33)]), .none⟩, ⟨(.some 35), (.app 21 4 (.t 32) (.t 34)), .none⟩, ⟨(.some 36), (.call (.f 19) [(.t 30),
  (.t 35)]), .none⟩, ⟨(.some 37), (.mv (.t 36)), .none⟩, ⟨(.some 38), (.mv (.t 7)), (.some (37, true))⟩, ⟨(.some 39), (.call (.f 25) [(.t 38)]), (.some (37, true))⟩, ⟨(.some 40), (.mv (.t 0)), (.some
  (37, true))⟩, ⟨(.some 41), (.call (.f 25) [(.t 40)]), (.some (37, true))⟩, ⟨(.some 42), (.mv (.t 1)), (.some (37, true))⟩, ⟨(.some 43), (.call (.f 25) [(.t 42)]), (.some (37, true))⟩, ⟨(.some 44),
  (.app 21 4 (.t 41) (.t 43)), (.some (37, true))⟩, ⟨(.some 45), (.call (.f 19) [(.t 39), (.t 44)]), (.some (37, true))⟩, ⟨(.some 46), (.pick (.t 37) (.t 45) (.k (.bool false))), .none⟩, ⟨(.some 47),
  (.mv (.t 46)), .none⟩, ⟨(.some 48), (.call (.f 24) []), (.some (47, true))⟩, ⟨(.some 49), (.pick (.t 47) (.t 48) (.k (.bool false))), .none⟩, ⟨(.some 6), (.mv (.t 49)), .none⟩]) .ret)))))
theorem c10 : Try.f10.body.bind (cCode Try.prog 50) = some a10 := by kernel_rfl
theorem r10 : Try.f10.results.toList = [(.tmp 6)] := by kernel_rfl
theorem n10 : Try.f10.ntmps = 50 := by kernel_rfl
theorem e10 : Enters Try.prog 10 := enters_of Try.func10 (by kernel_rfl) (by kernel_rfl)

theorem runes_cons (x : Int) (l : List Int) : runes (x :: l) = [.int .i32 x] :: runes l := rfl
theorem i32_cons {x : Int} {l : List Int} (hx : -2147483648 ≤ x ∧ x ≤ 2147483647) (h : I32 l) : I32 (x :: l) := fun y hy => by
  rcases List.mem_cons.1 hy with rfl | hy
  · exact hx
  · exact h y hy
theorem i32_append {a b : List Int} (ha : I32 a) (hb : I32 b) : I32 (a ++ b) := fun y hy => by
  rcases List.mem_append.1 hy with hy | hy
  · exact ha y hy
  · exact hb y hy

set_option maxRecDepth 10000 in
set_option maxHeartbeats 1000000 in
theorem normParts_pure (l : List Int) (hl : Runes l) (o : List Int) (ho : Runes o) (c : Int) (hc : 0 ≤ c ∧ c ≤ 255) : Pure Try.prog 10 [rS l none, rS o none, .lit (.int .u8 c)] [] (.lit (.bool true)) := by
  refine pure0 Try.func10 c10 n10 e10 r10 (by simp) rfl ?_
  have h32 := hl.2
  have o32 := ho.2
  have small : l.length ≤ 100 → o.length ≤ 100 → awp Try.prog 0 a10 (Done Try.prog [.tmp 6] (.lit (.bool true))) (astart [rS l none, rS o none, .lit (.int .u8 c)] [] [] 0) := fun h1 h2 => by
    have g1 : decide ((l.length : Int) > 100) = false := by simp only [decide_eq_false_iff_not]; omega
    have g2 : decide ((o.length : Int) > 100) = false := by simp only [decide_eq_false_iff_not]; omega
    have c26 : ((26 : Int) = 0) = False := by simp
    have d1 : c.tmod 26 = c % 26 := fmod_nn _ _ (by omega)
    have w1 : IntKind.u8.wrap (c % 26) = c % 26 := wrap_u8 _ (by omega) (by omega)
    have w2 : IntKind.i32.wrap (c % 26) = c % 26 := wrap_i32 _ (by omega) (by omega)
    have w3 : IntKind.i32.wrap (97 + c % 26) = 97 + c % 26 := wrap_i32 _ (by omega) (by omega)
    obtain ⟨x, hx⟩ : ∃ x, x = 97 + c % 26 := ⟨_, rfl⟩
    rw [← hx] at w3
    have hx128 : x < 128 := by omega
    have xo32 : I32 (x :: o) := i32_cons (by omega) o32
    have a1 := nfd_len l
    have a2 := nfc_length (T := T) (cc := cls) l
    have a3 := nfd_len (x :: o)
    have a4 := nfc_length (T := T) (cc := cls) (x :: o)
    have a5 := nfd_len (l ++ x :: o)
    have a6 := nfc_length (T := T) (cc := cls) (l ++ x :: o)
    simp only [List.length_append, List.length_cons] at a3 a4 a5 a6
    have b1 := nfc_plain nf hx128 l o
    have b2 := nfd_plain nf hx128 l o
    have q1 := NFC_pure (l ++ x :: o) (by simp; omega) (i32_append h32 xo32)
    have q2 := NFC_pure (x :: o) (by simp; omega) xo32
    have q3 := NFD_pure (l ++ x :: o) (by simp; omega) (i32_append h32 xo32)
    have q4 := NFD_pure (x :: o) (by simp; omega) xo32
    simp only [a10, astart, argSlots, runes_length, g1, g2, c26, d1, w1, w2, ← hx, w3, go_sem, Nat.reduceAdd, Nat.reduceEqDiff, Nat.reduceLT, reduceIte, reduceCtorEq, Nat.reduceBEq, Int.reduceLT, Int.reduceToNat, Int.reducePow, Nat.reduceLeDiff, Int.reduceLE, Nat.reduceMul, Nat.reduceSub]
    refine ⟨by omega, ?_⟩
    rw [← runes_cons]
    refine empty_sl ?_
    simp only [runes_length, beq_self_eq_true, go_sem, Nat.reduceAdd, Nat.reduceEqDiff, Nat.reduceLT, reduceIte, reduceCtorEq, Nat.reduceBEq, Int.reduceLT, Int.reduceToNat, Int.reducePow, Nat.reduceLeDiff, Int.reduceLE, Nat.reduceMul, Nat.reduceSub]
    refine ⟨by omega, ?_⟩
    refine ⟨by omega, ?_⟩
    rw [← runes_append]
    refine callGo_pure q1 (by rfl) ?_
    simp only [go_sem, Nat.reduceAdd, Nat.reduceEqDiff, Nat.reduceLT, reduceIte, reduceCtorEq, Nat.reduceBEq, Int.reduceLT, Int.reduceToNat, Int.reducePow, Nat.reduceLeDiff, Int.reduceLE, Nat.reduceMul, Nat.reduceSub]
    refine callGo_pure (NFC_pure l (by omega) h32) (by rfl) ?_
    simp only [go_sem, Nat.reduceAdd, Nat.reduceEqDiff, Nat.reduceLT, reduceIte, reduceCtorEq, Nat.reduceBEq, Int.reduceLT, Int.reduceToNat, Int.reducePow, Nat.reduceLeDiff, Int.reduceLE, Nat.reduceMul, Nat.reduceSub]
    refine callGo_pure q2 (by rfl) ?_
    simp only [runes_length, beq_self_eq_true, go_sem, Nat.reduceAdd, Nat.reduceEqDiff, Nat.reduceLT, reduceIte, reduceCtorEq, Nat.reduceBEq, Int.reduceLT, Int.reduceToNat, Int.reducePow, Nat.reduceLeDiff, Int.reduceLE, Nat.reduceMul, Nat.reduceSub]
    refine ⟨by omega, ?_⟩
    rw [← runes_append, ← b1]
    refine callGo_pure (Same_pure (nfcP T cls (l ++ x :: o)) (nfcP T cls (l ++ x :: o)) (by omega)) (by rfl) ?_
    simp only [beq_self_eq_true, go_sem, Nat.reduceAdd, Nat.reduceEqDiff, Nat.reduceLT, reduceIte, reduceCtorEq, Nat.reduceBEq, Int.reduceLT, Int.reduceToNat, Int.reducePow, Nat.reduceLeDiff, Int.reduceLE, Nat.reduceMul, Nat.reduceSub]
    refine callGo_pure q3 (by rfl) ?_
    simp only [go_sem, Nat.reduceAdd, Nat.reduceEqDiff, Nat.reduceLT, reduceIte, reduceCtorEq, Nat.reduceBEq, Int.reduceLT, Int.reduceToNat, Int.reducePow, Nat.reduceLeDiff, Int.reduceLE, Nat.reduceMul, Nat.reduceSub]
    refine callGo_pure (NFD_pure l (by omega) h32) (by rfl) ?_
    simp only [go_sem, Nat.reduceAdd, Nat.reduceEqDiff, Nat.reduceLT, reduceIte, reduceCtorEq, Nat.reduceBEq, Int.reduceLT, Int.reduceToNat, Int.reducePow, Nat.reduceLeDiff, Int.reduceLE, Nat.reduceMul, Nat.reduceSub]
    refine callGo_pure q4 (by rfl) ?_
    simp only [runes_length, beq_self_eq_true, go_sem, Nat.reduceAdd, Nat.reduceEqDiff, Nat.reduceLT, reduceIte, reduceCtorEq, Nat.reduceBEq, Int.reduceLT, Int.reduceToNat, Int.reducePow, Nat.reduceLeDiff, Int.reduceLE, Nat.reduceMul, Nat.reduceSub]
    refine ⟨by omega, ?_⟩
    rw [← runes_append, ← b2]
    refine callGo_pure (Same_pure (nfdP T cls (l ++ x :: o)) (nfdP T cls (l ++ x :: o)) (by omega)) (by rfl) ?_
    simp only [beq_self_eq_true, go_sem, Nat.reduceAdd, Nat.reduceEqDiff, Nat.reduceLT, reduceIte, reduceCtorEq, Nat.reduceBEq, Int.reduceLT, Int.reduceToNat, Int.reducePow, Nat.reduceLeDiff, Int.reduceLE, Nat.reduceMul, Nat.reduceSub]
    refine callGo_pure awake_pure (by rfl) ?_
    simp only [go_sem, Nat.reduceAdd, Nat.reduceEqDiff, Nat.reduceLT, reduceIte, reduceCtorEq, Nat.reduceBEq, Int.reduceLT, Int.reduceToNat, Int.reducePow, Nat.reduceLeDiff, Int.reduceLE, Nat.reduceMul, Nat.reduceSub]
    simp only [Done, resAV, resL, resOne, look_nil, look_cons, Nat.reduceEqDiff, if_true, if_false, reduceIte, ite_true, ite_false, Nat.zero_ne_one, Nat.one_ne_zero, reduceCtorEq, true_or, or_true, true_and, Option.some.injEq, AV.lit.injEq, Value.int.injEq, Value.bool.injEq]
  by_cases h1 : l.length ≤ 100
  · by_cases h2 : o.length ≤ 100
    · exact small h1 h2
    · have g1 : decide ((l.length : Int) > 100) = false := by simp only [decide_eq_false_iff_not]; omega
      have g2 : decide ((o.length : Int) > 100) = true := by simp only [decide_eq_true_eq]; omega
      simp only [a10, astart, argSlots, runes_length, g1, g2, go_sem, Nat.reduceAdd, Nat.reduceEqDiff, Nat.reduceLT, reduceIte, reduceCtorEq, Nat.reduceBEq, Int.reduceLT, Int.reduceToNat, Int.reducePow, Nat.reduceLeDiff, Int.reduceLE, Nat.reduceMul, Nat.reduceSub]
      refine callGo_pure awake_pure (by rfl) ?_
      simp only [go_sem, Nat.reduceAdd, Nat.reduceEqDiff, Nat.reduceLT, reduceIte, reduceCtorEq, Nat.reduceBEq, Int.reduceLT, Int.reduceToNat, Int.reducePow, Nat.reduceLeDiff, Int.reduceLE, Nat.reduceMul, Nat.reduceSub]
      simp only [Done, resAV, resL, resOne, look_nil, look_cons, Nat.reduceEqDiff, if_true, if_false, reduceIte, ite_true, ite_false, Nat.zero_ne_one, Nat.one_ne_zero, reduceCtorEq, true_or, or_true, true_and, Option.some.injEq, AV.lit.injEq, Value.int.injEq, Value.bool.injEq]
  · have g1 : decide ((l.length : Int) > 100) = true := by simp only [decide_eq_true_eq]; omega
    simp only [a10, astart, argSlots, runes_length, g1, go_sem, Nat.reduceAdd, Nat.reduceEqDiff, Nat.reduceLT, reduceIte, reduceCtorEq, Nat.reduceBEq, Int.reduceLT, Int.reduceToNat, Int.reducePow, Nat.reduceLeDiff, Int.reduceLE, Nat.reduceMul, Nat.reduceSub]
    refine callGo_pure awake_pure (by rfl) ?_
    simp only [go_sem, Nat.reduceAdd, Nat.reduceEqDiff, Nat.reduceLT, reduceIte, reduceCtorEq, Nat.reduceBEq, Int.reduceLT, Int.reduceToNat, Int.reducePow, Nat.reduceLeDiff, Int.reduceLE, Nat.reduceMul, Nat.reduceSub]
    simp only [Done, resAV, resL, resOne, look_nil, look_cons, Nat.reduceEqDiff, if_true, if_false, reduceIte, ite_true, ite_false, Nat.zero_ne_one, Nat.one_ne_zero, reduceCtorEq, true_or, or_true, true_and, Option.some.injEq, AV.lit.injEq, Value.int.injEq, Value.bool.injEq]

theorem normParts_any (avs : List AV) (h : Args Try.prog Try.f10.params.toList avs) : Pure Try.prog 10 avs [] (.lit (.bool true)) := by
  have hp : Try.f10.params.toList = [22, 22, 5] := by kernel_rfl
  rw [hp] at h
  obtain ⟨av0, rest0, rfl, a0, h0⟩ := h
  obtain ⟨av1, rest1, rfl, a1, h1⟩ := h0
  obtain ⟨av2, rest2, rfl, a2, rfl⟩ := h1
  obtain ⟨z0, rfl, w0, s0⟩ := arg_ints (e := 21) (k := .i32) (by kernel_rfl) (by kernel_rfl) a0
  rw [show Try.prog.bytesOf 21 = 4 from by kernel_rfl] at s0
  obtain ⟨z1, rfl, w1, s1⟩ := arg_ints (e := 21) (k := .i32) (by kernel_rfl) (by kernel_rfl) a1
  rw [show Try.prog.bytesOf 21 = 4 from by kernel_rfl] at s1
  obtain ⟨z2, rfl, w2⟩ := arg_int (k := .u8) (by kernel_rfl) a2
  exact normParts_pure z0 ⟨by omega, fun n hn => by simpa [Lit.wf, IntKind.min, IntKind.max, IntKind.signed, IntKind.bits] using w0 n hn⟩ z1 ⟨by omega, fun n hn => by simpa [Lit.wf, IntKind.min, IntKind.max, IntKind.signed, IntKind.bits] using w1 n hn⟩ z2 (by simpa [Lit.wf, IntKind.min, IntKind.max, IntKind.signed, IntKind.bits] using w2)

set_option maxRecDepth 100000 in
theorem normParts_lifted (os : Os) (started : os.Started) (H : Type) (enc : TypeId × Value → H) :
    ReturnsInHanded {} Try.checked os 10 .any (Rows.normPartsSpec.pre6 enc Try.prog Try.f10 Rows.normPartsRow.domain false) (Rows.normPartsSpec.post enc Try.prog Try.f10 false true false false) := by
  refine law_returns (C := Try.checked) (tb := 4) (by kernel_rfl) started (by kernel_rfl) Try.func10
    (ChangeSpec.witness6 (enc := enc) (C := Try.checked) false ⟨#[], #[.slice none 0 0, .slice none 0 0, .int .u8 0], []⟩ 8 (by kernel_rfl) (by kernel_rfl) (by kernel_rfl) (by kernel_rfl))
    (by kernel_rfl) (by kernel_rfl) rfl rfl (by kernel_rfl) (by kernel_rfl) ?_ normParts_any
  intro ds hds
  have hp : Try.f10.params.toList = [22, 22, 5] := by kernel_rfl
  rw [hp] at hds
  match ds, hds with
  | [d0, d1, d2], _ => exact ⟨rfl, rfl, rfl⟩

theorem normParts_holds : Rows.NormPartsSaid :=
  OpenClaim.holds_of_wide 10 Try.f10 rfl rfl rfl rfl rfl rfl rfl ⟨rfl, rfl, rfl, rfl, rfl⟩ rfl rfl rfl rfl rfl (by kernel_rfl) Try.func10 (by kernel_rfl)
    (of_decide_eq_true (by kernel_rfl)) (by unfold Func.isWrapper; first | (rw [if_pos (by decide +kernel)]; kernel_rfl) | (rw [if_neg (by decide +kernel)]; exact ⟨rfl, rfl⟩))
    (fun os started H enc _ => normParts_lifted os started H enc)
end Go.Proofs.Ytmhpjoadfgplgaa
