/-
The chapter's examples. Conditions: none.
-/
import Derived.Test.YtmhpjoadfgplgaaPunV
set_option linter.unusedSimpArgs false
set_option linter.unusedVariables false
set_option linter.unusedSectionVars false
namespace Go.Proofs.Ytmhpjoadfgplgaa
open Go Go.Ab
def a35 : ACode :=
  (.seq (.reg [⟨(.some 2), (.mv (.k (.bool false))), .none⟩]) (.seq (.reg [⟨(.some 6), (.mv (.t 0)), .none⟩, ⟨(.some 7), (.call (.f 17) [(.t 6)]), .none⟩, ⟨(.some 5), (.mv (.t 7)), .none⟩, ⟨(.some 8),
  (.ext (.t 5) 0), .none⟩, ⟨(.some 9), (.ext (.t 5) 1), .none⟩, ⟨(.some 3), (.mv (.t 8)), .none⟩, ⟨(.some 4), (.mv (.t 9)), .none⟩]) (.seq (.reg [⟨(.some 10), (.mv (.t 3)), .none⟩, ⟨(.some 11), (.len
  (.t 10)), .none⟩, ⟨(.some 12), (.bin .eql (.t 11) (.k (.int .i64 0))), .none⟩, ⟨(.some 13), (.mv (.t 12)), .none⟩, ⟨(.some 14), (.mv (.t 4)), (.some (13, true))⟩, ⟨(.some 15), (.bin .eql (.t 14) (.k
  (.int .i64 40))), (.some (13, true))⟩, ⟨(.some 16), (.pick (.t 13) (.t 15) (.k (.bool false))), .none⟩, ⟨(.some 2), (.mv (.t 16)), .none⟩]) .ret)))
theorem c35 : Try.f35.body.bind (cCode Try.prog 17) = some a35 := by kernel_rfl
theorem r35 : Try.f35.results.toList = [(.tmp 2)] := by kernel_rfl
theorem n35 : Try.f35.ntmps = 17 := by kernel_rfl
theorem e35 : Enters Try.prog 35 := enters_of Try.func35 (by kernel_rfl) (by kernel_rfl)
def a14 : ACode :=
  (.seq (.reg [⟨(.some 0), (.mv (.k (.bool false))), .none⟩]) (.seq (.reg [⟨(.some 12), (.bs 21 1 [(.k (.int .i32 98)), (.k (.int .i32 252)), (.k (.int .i32 99)), (.k (.int .i32 104)), (.k (.int .i32
  101)), (.k (.int .i32 114))]), .none⟩, ⟨(.some 13), (.call (.f 15) [(.t 12)]), .none⟩, ⟨(.some 11), (.mv (.t 13)), .none⟩, ⟨(.some 14), (.ext (.t 11) 0), .none⟩, ⟨(.some 15), (.ext (.t 11) 1), .none⟩,
  ⟨(.some 1), (.mv (.t 14)), .none⟩, ⟨(.some 2), (.mv (.t 15)), .none⟩]) (.seq (.reg [⟨(.some 17), (.bs 21 1 [(.k (.int .i32 228))]), .none⟩, ⟨(.some 18), (.call (.f 15) [(.t 17)]), .none⟩, ⟨(.some 16),
  (.mv (.t 18)), .none⟩, ⟨(.some 19), (.ext (.t 16) 0), .none⟩, ⟨(.some 20), (.ext (.t 16) 1), .none⟩, ⟨(.some 3), (.mv (.t 19)), .none⟩, ⟨(.some 4), (.mv (.t 20)), .none⟩]) (.seq (.reg [⟨(.some 22),
  (.bs 21 1 [(.k (.int .i32 97))]), .none⟩, ⟨(.some 23), (.call (.f 15) [(.t 22)]), .none⟩, ⟨(.some 21), (.mv (.t 23)), .none⟩, ⟨(.some 24), (.ext (.t 21) 0), .none⟩, ⟨(.some 25), (.ext (.t 21) 1),
  .none⟩, ⟨(.some 5), (.mv (.t 24)), .none⟩, ⟨(.some 6), (.mv (.t 25)), .none⟩]) (.seq (.reg [⟨(.some 27), (.call (.f 15) [(.k (.slice .none 0 0))]), .none⟩, ⟨(.some 26), (.mv (.t 27)), .none⟩, ⟨(.some
  28), (.ext (.t 26) 0), .none⟩, ⟨(.some 29), (.ext (.t 26) 1), .none⟩, ⟨(.some 7), (.mv (.t 28)), .none⟩, ⟨(.some 8), (.mv (.t 29)), .none⟩]) (.seq (.reg [⟨(.some 31), (.call (.f 17) [(.k (.string
  ⟨#[98, 99, 104, 101, 114, 45, 107, 118, 97]⟩))]), .none⟩, ⟨(.some 30), (.mv (.t 31)), .none⟩, ⟨(.some 32), (.ext (.t 30) 0), .none⟩, ⟨(.some 33), (.ext (.t 30) 1), .none⟩, ⟨(.some 9), (.mv (.t 32)),
  .none⟩, ⟨(.some 10), (.mv (.t 33)), .none⟩]) (.seq (.reg [⟨(.some 34), (.mv (.t 2)), .none⟩, ⟨(.some 35), (.mv (.t 4)), .none⟩, ⟨(.some 36), (.bin .add (.t 34) (.t 35)), .none⟩, ⟨(.some 37), (.mv (.t
  6)), .none⟩, ⟨(.some 38), (.bin .add (.t 36) (.t 37)), .none⟩, ⟨(.some 39), (.mv (.t 8)), .none⟩, ⟨(.some 40), (.bin .add (.t 38) (.t 39)), .none⟩, ⟨(.some 41), (.mv (.t 10)), .none⟩, ⟨(.some 42),
  (.bin .add (.t 40) (.t 41)), .none⟩, ⟨(.some 43), (.bin .eql (.t 42) (.k (.int .i64 0))), .none⟩, ⟨(.some 44), (.mv (.t 43)), .none⟩, ⟨(.some 45), (.mv (.t 1)), (.some (44, true))⟩, ⟨(.some 46), (.bin
  .eql (.t 45) (.k (.string ⟨#[98, 99, 104, 101, 114, 45, 107, 118, 97]⟩))), (.some (44, true))⟩, ⟨(.some 47), (.pick (.t 44) (.t 46) (.k (.bool false))), .none⟩, ⟨(.some 48), (.mv (.t 47)), .none⟩,
  ⟨(.some 49), (.mv (.t 3)), (.some (48, true))⟩, ⟨(.some 50), (.bin .eql (.t 49) (.k (.string ⟨#[52, 99, 97]⟩))), (.some (48, true))⟩, ⟨(.some 51), (.pick (.t 48) (.t 50) (.k (.bool false))), .none⟩,
  ⟨(.some 52), (.mv (.t 51)), .none⟩, ⟨(.some 53), (.mv (.t 5)), (.some (52, true))⟩, ⟨(.some 54), (.bin .eql (.t 53) (.k (.string ⟨#[97, 45]⟩))), (.some (52, true))⟩, ⟨(.some 55), (.pick (.t 52) (.t
  54) (.k (.bool false))), .none⟩, ⟨(.some 56), (.mv (.t 55)), .none⟩, ⟨(.some 57), (.mv (.t 7)), (.some (56, true))⟩, ⟨(.some 58), (.bin .eql (.t 57) (.k (.string ⟨#[]⟩))), (.some (56, true))⟩, ⟨(.some
  59), (.pick (.t 56) (.t 58) (.k (.bool false))), .none⟩, ⟨(.some 60), (.mv (.t 59)), .none⟩, ⟨(.some 61), (.mv (.t 9)), (.some (60, true))⟩, ⟨(.some 62), (.bs 21 1 [(.k (.int .i32 98)), (.k (.int .i32
  252)), (.k (.int .i32 99)), (.k (.int .i32 104)), (.k (.int .i32 101)), (.k (.int .i32 114))]), (.some (60, true))⟩, ⟨(.some 63), (.call (.f 19) [(.t 61), (.t 62)]), (.some (60, true))⟩, ⟨(.some 64),
  (.pick (.t 60) (.t 63) (.k (.bool false))), .none⟩, ⟨(.some 65), (.mv (.t 64)), .none⟩, ⟨(.some 66), (.call (.f 35) [(.k (.string ⟨#[45]⟩))]), (.some (65, true))⟩, ⟨(.some 67), (.pick (.t 65) (.t 66)
  (.k (.bool false))), .none⟩, ⟨(.some 68), (.mv (.t 67)), .none⟩, ⟨(.some 69), (.call (.f 35) [(.k (.string ⟨#[98, 99, 104, 101, 114, 45, 75, 118, 97]⟩))]), (.some (68, true))⟩, ⟨(.some 70), (.pick (.t
  68) (.t 69) (.k (.bool false))), .none⟩, ⟨(.some 71), (.mv (.t 70)), .none⟩, ⟨(.some 72), (.call (.f 35) [(.k (.string ⟨#[57, 57, 57, 57, 57, 57, 57, 57]⟩))]), (.some (71, true))⟩, ⟨(.some 73), (.pick
  (.t 71) (.t 72) (.k (.bool false))), .none⟩, ⟨(.some 0), (.mv (.t 73)), .none⟩]) .ret)))))))
theorem c14 : Try.f14.body.bind (cCode Try.prog 74) = some a14 := by kernel_rfl
theorem r14 : Try.f14.results.toList = [(.tmp 0)] := by kernel_rfl
theorem n14 : Try.f14.ntmps = 74 := by kernel_rfl
theorem e14 : Enters Try.prog 14 := enters_of Try.func14 (by kernel_rfl) (by kernel_rfl)

theorem dcd_one {s out : List Nat} {n i b d : Nat} {f : Bool} (hs : s ≠ []) (h : rd b 1 0 1 s = some (d, [])) (h2 : isSc (((n + (i + d) / (out.length + 1) : Nat) : Nat) : Int) = true) : dcd s out n i b f = some (out.take ((i + d) % (out.length + 1)) ++ (n + (i + d) / (out.length + 1)) :: out.drop ((i + d) % (out.length + 1))) := by
  rw [dcd_some hs h h2, dcd_nil]

theorem dec_x1 : decT [98, 99, 104, 101, 114, 45, 107, 118, 97] = some [98, 252, 99, 104, 101, 114] := by
  have hc : cutS [98, 99, 104, 101, 114, 45, 107, 118, 97] = ([98, 99, 104, 101, 114], [107, 118, 97]) := by decide +kernel
  rw [decT_ok (by rw [hc]; decide), hc, dcd_one (d := 745) (by decide) (by decide +kernel) (by decide +kernel)]; rfl
theorem dec_x2 : decT [52, 99, 97] = some [228] := by
  have hc : cutS [52, 99, 97] = ([], [52, 99, 97]) := by decide +kernel
  rw [decT_ok (by rw [hc]; decide), hc, dcd_one (d := 100) (by decide) (by decide +kernel) (by decide +kernel)]; rfl
theorem dec_x3 : decT [97, 45] = some [97] := by
  have hc : cutS [97, 45] = ([97], []) := by decide +kernel
  rw [decT_ok (by rw [hc]; decide), hc, dcd_nil]
theorem dec_x4 : decT [] = some [] := by
  have hc : cutS [] = ([], []) := by decide +kernel
  rw [decT_ok (by rw [hc]; decide), hc, dcd_nil]
theorem dec_n1 : decT [45] = none := by
  have hc : cutS [45] = ([], [45]) := by decide +kernel
  rw [decT_ok (by rw [hc]; decide), hc, dcd_none (by decide) (by decide +kernel)]
theorem dec_n2 : decT [98, 99, 104, 101, 114, 45, 75, 118, 97] = none := by
  have hc : cutS [98, 99, 104, 101, 114, 45, 75, 118, 97] = ([98, 99, 104, 101, 114], [75, 118, 97]) := by decide +kernel
  rw [decT_ok (by rw [hc]; decide), hc, dcd_none (by decide) (by decide +kernel)]
theorem dec_n3 : decT [57, 57, 57, 57, 57, 57, 57, 57] = none := by
  have hc : cutS [57, 57, 57, 57, 57, 57, 57, 57] = ([], [57, 57, 57, 57, 57, 57, 57, 57]) := by decide +kernel
  rw [decT_ok (by rw [hc]; decide), hc, dcd_none (by decide) (by decide +kernel)]

theorem encR_dec {s c : List Nat} (h : decT s = some c) (hl : c.length ≤ 2000) : encR (ofN c) = (txt s, 0) := by
  obtain ⟨h1, h2⟩ := enc_dec h
  unfold encR
  rw [if_neg (by rw [ofN_length]; omega), if_pos]
  · have : (ofN c).map Int.toNat = c := by
      unfold ofN; rw [List.map_map]
      exact (List.map_congr_left fun x _ => by simp).trans (List.map_id c)
    rw [this, h1]
  · refine List.all_eq_true.2 fun x hx => ?_
    unfold ofN at hx
    obtain ⟨y, hy, rfl⟩ := List.mem_map.1 hx
    exact h2 y hy
theorem enc_x1 : encR [98, 252, 99, 104, 101, 114] = (txt [98, 99, 104, 101, 114, 45, 107, 118, 97], 0) := encR_dec (c := [98, 252, 99, 104, 101, 114]) dec_x1 (by decide)
theorem enc_x2 : encR [228] = (txt [52, 99, 97], 0) := encR_dec (c := [228]) dec_x2 (by decide)
theorem enc_x3 : encR [97] = (txt [97, 45], 0) := encR_dec (c := [97]) dec_x3 (by decide)
theorem enc_x4 : encR [] = (txt [], 0) := encR_dec (c := []) dec_x4 (by decide)

theorem decR_some {s c : List Nat} (hl : s.length ≤ 10000) (h : decT s = some c) : decR s = (c, 0) := by unfold decR; rw [if_neg (by omega), h]
theorem decR_none {s : List Nat} (hl : s.length ≤ 10000) (h : decT s = none) : decR s = ([], 40) := by unfold decR; rw [if_neg (by omega), h]

set_option maxRecDepth 10000 in
theorem none_pure (s : List Nat) (hs : ∀ n ∈ s, n ≤ 255) (hl : s.length ≤ 10000) (h : decT s = none) : Pure Try.prog 35 [.lit (.string (txt s))] [] (.lit (.bool true)) := by
  refine pure0 Try.func35 c35 n35 e35 r35 (by simp) (by rfl) ?_
  simp only [a35, astart, argSlots, go_sem, Nat.reduceAdd, Nat.reduceEqDiff, Nat.reduceLT, reduceIte, reduceCtorEq, Nat.reduceBEq, Int.reduceLT, Int.reduceToNat, Int.reducePow, Nat.reduceLeDiff, Int.reduceLE, Nat.reduceMul, Nat.reduceSub]
  refine callGo_pure (Decode_pure s hs (by omega)) (by rfl) ?_
  rw [decR_none hl h]
  have b1 : ((((ofN []).length : Int)) == 0) = true := rfl
  have b2 : ((40 : Int) == 40) = true := rfl
  simp only [decA, runes_length, b1, b2, go_sem, Nat.reduceAdd, Nat.reduceEqDiff, Nat.reduceLT, reduceIte, reduceCtorEq, Nat.reduceBEq, Int.reduceLT, Int.reduceToNat, Int.reducePow, Nat.reduceLeDiff, Int.reduceLE, Nat.reduceMul, Nat.reduceSub]
  simp only [Done, resAV, resL, resOne, look_nil, look_cons, Nat.reduceEqDiff, if_true, if_false, reduceIte, ite_true, ite_false, Nat.zero_ne_one, Nat.one_ne_zero, reduceCtorEq, true_or, or_true, true_and, Option.some.injEq, AV.lit.injEq, Value.int.injEq, Value.bool.injEq]

/-- Nil will do where a slice without elements does. -/
theorem pure_nil {P : Program} {g : FuncId} {e : TypeId} {tys : List TypeId} {r : AV} (h : Pure P g [.sl e [] none] tys r) : Pure P g [.lit (.slice none 0 0)] tys r := by
  refine ⟨h.1, fun w p vs hp hr => h.2 w p vs hp ?_⟩
  simp only [RepL, Rep] at hr ⊢
  obtain ⟨v, vs', h1, rfl, h2⟩ := hr
  exact ⟨_, vs', h1, ⟨els_nil e, fun id hid => by cases hid⟩, h2⟩

theorem txt_lit1 : (⟨#[98, 99, 104, 101, 114, 45, 107, 118, 97]⟩ : ByteArray) = txt [98, 99, 104, 101, 114, 45, 107, 118, 97] := rfl
theorem txt_lit2 : (⟨#[52, 99, 97]⟩ : ByteArray) = txt [52, 99, 97] := rfl
theorem txt_lit3 : (⟨#[97, 45]⟩ : ByteArray) = txt [97, 45] := rfl
theorem txt_lit4 : (⟨#[]⟩ : ByteArray) = txt [] := rfl

set_option maxRecDepth 10000 in
theorem awake04_pure : Pure Try.prog 14 [] [] (.lit (.bool true)) := by
  refine pure0 Try.func14 c14 n14 e14 r14 (by simp) (by rfl) ?_
  simp only [a14, astart, argSlots, go_sem, Nat.reduceAdd, Nat.reduceEqDiff, Nat.reduceLT, reduceIte, reduceCtorEq, Nat.reduceBEq, Int.reduceLT, Int.reduceToNat, Int.reducePow, Nat.reduceLeDiff, Int.reduceLE, Nat.reduceMul, Nat.reduceSub]
  refine callGo_pure (Encode_pure [98, 252, 99, 104, 101, 114] (by decide)) (by rfl) ?_
  simp only [enc_x1, go_sem, Nat.reduceAdd, Nat.reduceEqDiff, Nat.reduceLT, reduceIte, reduceCtorEq, Nat.reduceBEq, Int.reduceLT, Int.reduceToNat, Int.reducePow, Nat.reduceLeDiff, Int.reduceLE, Nat.reduceMul, Nat.reduceSub]
  refine callGo_pure (Encode_pure [228] (by decide)) (by rfl) ?_
  simp only [enc_x2, go_sem, Nat.reduceAdd, Nat.reduceEqDiff, Nat.reduceLT, reduceIte, reduceCtorEq, Nat.reduceBEq, Int.reduceLT, Int.reduceToNat, Int.reducePow, Nat.reduceLeDiff, Int.reduceLE, Nat.reduceMul, Nat.reduceSub]
  refine callGo_pure (Encode_pure [97] (by decide)) (by rfl) ?_
  simp only [enc_x3, go_sem, Nat.reduceAdd, Nat.reduceEqDiff, Nat.reduceLT, reduceIte, reduceCtorEq, Nat.reduceBEq, Int.reduceLT, Int.reduceToNat, Int.reducePow, Nat.reduceLeDiff, Int.reduceLE, Nat.reduceMul, Nat.reduceSub]
  refine callGo_pure (pure_nil (Encode_pure [] (by decide))) (by rfl) ?_
  simp only [enc_x4, go_sem, Nat.reduceAdd, Nat.reduceEqDiff, Nat.reduceLT, reduceIte, reduceCtorEq, Nat.reduceBEq, Int.reduceLT, Int.reduceToNat, Int.reducePow, Nat.reduceLeDiff, Int.reduceLE, Nat.reduceMul, Nat.reduceSub]
  rw [txt_lit1]
  refine callGo_pure (Decode_pure [98, 99, 104, 101, 114, 45, 107, 118, 97] (by decide) (by decide)) (by rfl) ?_
  rw [decR_some (by decide) dec_x1]
  have z0 : IntKind.i64.wrap (0 + 0) = 0 := by decide
  have e1 : ∀ b : ByteArray, (b.toList == b.toList) = true := fun b => by simp
  simp only [decA, z0, ← txt_lit1, ← txt_lit2, ← txt_lit3, ← txt_lit4, binStr, e1, beq_self_eq_true, go_sem, Nat.reduceAdd, Nat.reduceEqDiff, Nat.reduceLT, reduceIte, reduceCtorEq, Nat.reduceBEq, Int.reduceLT, Int.reduceToNat, Int.reducePow, Nat.reduceLeDiff, Int.reduceLE, Nat.reduceMul, Nat.reduceSub]
  refine callGo_pure (Same_pure [98, 252, 99, 104, 101, 114] [98, 252, 99, 104, 101, 114] (by decide)) (by rfl) ?_
  have z1 : (([98, 252, 99, 104, 101, 114] : List Int) == [98, 252, 99, 104, 101, 114]) = true := by decide
  simp only [z1, go_sem, Nat.reduceAdd, Nat.reduceEqDiff, Nat.reduceLT, reduceIte, reduceCtorEq, Nat.reduceBEq, Int.reduceLT, Int.reduceToNat, Int.reducePow, Nat.reduceLeDiff, Int.reduceLE, Nat.reduceMul, Nat.reduceSub]
  refine callGo_pure (none_pure [45] (by decide) (by decide) dec_n1) (by rfl) ?_
  simp only [go_sem, Nat.reduceAdd, Nat.reduceEqDiff, Nat.reduceLT, reduceIte, reduceCtorEq, Nat.reduceBEq, Int.reduceLT, Int.reduceToNat, Int.reducePow, Nat.reduceLeDiff, Int.reduceLE, Nat.reduceMul, Nat.reduceSub]
  refine callGo_pure (none_pure [98, 99, 104, 101, 114, 45, 75, 118, 97] (by decide) (by decide) dec_n2) (by rfl) ?_
  simp only [go_sem, Nat.reduceAdd, Nat.reduceEqDiff, Nat.reduceLT, reduceIte, reduceCtorEq, Nat.reduceBEq, Int.reduceLT, Int.reduceToNat, Int.reducePow, Nat.reduceLeDiff, Int.reduceLE, Nat.reduceMul, Nat.reduceSub]
  refine callGo_pure (none_pure [57, 57, 57, 57, 57, 57, 57, 57] (by decide) (by decide) dec_n3) (by rfl) ?_
  simp only [go_sem, Nat.reduceAdd, Nat.reduceEqDiff, Nat.reduceLT, reduceIte, reduceCtorEq, Nat.reduceBEq, Int.reduceLT, Int.reduceToNat, Int.reducePow, Nat.reduceLeDiff, Int.reduceLE, Nat.reduceMul, Nat.reduceSub]
  simp only [Done, resAV, resL, resOne, look_nil, look_cons, Nat.reduceEqDiff, if_true, if_false, reduceIte, ite_true, ite_false, Nat.zero_ne_one, Nat.one_ne_zero, reduceCtorEq, true_or, or_true, true_and, Option.some.injEq, AV.lit.injEq, Value.int.injEq, Value.bool.injEq]
end Go.Proofs.Ytmhpjoadfgplgaa
