/-
PunyPlain: the plain ones stand ahead. Conditions: none.
-/
import Derived.Test.YtmhpjoadfgplgaaPwL
set_option linter.unusedSimpArgs false
set_option linter.unusedVariables false
set_option linter.unusedSectionVars false
namespace Go.Proofs.Ytmhpjoadfgplgaa
open Go Go.Ab
def a22 : ACode :=
  (.seq (.reg [⟨(.some 4), (.mv (.k (.bool false))), .none⟩]) (.seq (.reg [⟨(.some 5), (.mv (.t 0)), .none⟩, ⟨(.some 6), (.mv (.t 1)), .none⟩, ⟨(.some 7), (.call (.f 53) [(.t 5), (.t 6)]), .none⟩,
  ⟨(.some 4), (.mv (.t 7)), .none⟩]) .ret))
theorem c22 : Try.f22.body.bind (cCode Try.prog 8) = some a22 := by kernel_rfl
theorem r22 : Try.f22.results.toList = [(.tmp 4)] := by kernel_rfl
theorem n22 : Try.f22.ntmps = 8 := by kernel_rfl
theorem e22 : Enters Try.prog 22 := enters_of Try.func22 (by kernel_rfl) (by kernel_rfl)
def a53 : ACode :=
  (.seq (.reg [⟨(.some 4), (.mv (.k (.bool false))), .none⟩]) (.seq (.reg [⟨(.some 5), (.mv (.t 0)), .none⟩, ⟨(.some 6), (.lenS (.t 5)), .none⟩, ⟨(.some 7), (.mv (.t 1)), .none⟩, ⟨(.some 8), (.lenS (.t
  7)), .none⟩, ⟨(.some 9), (.bin .geq (.t 6) (.t 8)), .none⟩, ⟨(.some 10), (.mv (.t 9)), .none⟩, ⟨(.some 11), (.mv (.t 0)), (.some (10, true))⟩, ⟨(.some 12), (.mv (.t 1)), (.some (10, true))⟩, ⟨(.some
  13), (.lenS (.t 12)), (.some (10, true))⟩, ⟨(.some 14), (.slS (.t 11) .none (.some (.t 13))), (.some (10, true))⟩, ⟨(.some 15), (.mv (.t 1)), (.some (10, true))⟩, ⟨(.some 16), (.bin .eql (.t 14) (.t
  15)), (.some (10, true))⟩, ⟨(.some 17), (.pick (.t 10) (.t 16) (.k (.bool false))), .none⟩, ⟨(.some 4), (.mv (.t 17)), .none⟩]) .ret))
theorem c53 : Try.f53.body.bind (cCode Try.prog 18) = some a53 := by kernel_rfl
theorem r53 : Try.f53.results.toList = [(.tmp 4)] := by kernel_rfl
theorem n53 : Try.f53.ntmps = 18 := by kernel_rfl
theorem e53 : Enters Try.prog 53 := enters_of Try.func53 (by kernel_rfl) (by kernel_rfl)
def a6_7 : ACode :=
  (.seq (.seq (.reg [⟨(.some 41), (.mv (.t 4)), .none⟩, ⟨(.some 42), (.bin .neq (.t 41) (.k (.int .i64 0))), .none⟩, ⟨(.some 43), (.mv (.t 42)), .none⟩, ⟨(.some 44), (.mv (.t 3)), (.some (43, false))⟩,
  ⟨(.some 45), (.mv (.t 5)), (.some (43, false))⟩, ⟨(.some 46), (.call (.f 22) [(.t 44), (.t 45)]), (.some (43, false))⟩, ⟨(.some 47), (.not (.t 46)), (.some (43, false))⟩, ⟨(.some 48), (.pick (.t 43)
  (.k (.bool true)) (.t 47)), .none⟩, ⟨(.some 49), (.mv (.t 48)), .none⟩, ⟨(.some 50), (.mv (.t 3)), (.some (49, false))⟩, ⟨(.some 51), (.lenS (.t 50)), (.some (49, false))⟩, ⟨(.some 52), (.mv (.t 5)),
  (.some (49, false))⟩, ⟨(.some 53), (.lenS (.t 52)), (.some (49, false))⟩, ⟨(.some 54), (.mv (.t 6)), (.some (49, false))⟩, ⟨(.some 55), (.bin .add (.t 53) (.t 54)), (.some (49, false))⟩, ⟨(.some 56),
  (.bin .lss (.t 51) (.t 55)), (.some (49, false))⟩, ⟨(.some 57), (.pick (.t 49) (.k (.bool true)) (.t 56)), .none⟩, ⟨(.some 58), (.mv (.t 57)), .none⟩, ⟨(.some 59), (.mv (.t 6)), (.some (58, false))⟩,
  ⟨(.some 60), (.bin .eql (.t 59) (.k (.int .i64 0))), (.some (58, false))⟩, ⟨(.some 61), (.mv (.t 60)), (.some (58, false))⟩, ⟨(.some 62), (.mv (.t 3)), (.some (61, true))⟩, ⟨(.some 63), (.mv (.t 5)),
  (.some (61, true))⟩, ⟨(.some 64), (.bin .neq (.t 62) (.t 63)), (.some (61, true))⟩, ⟨(.some 65), (.pick (.t 61) (.t 64) (.k (.bool false))), (.some (58, false))⟩, ⟨(.some 66), (.pick (.t 58) (.k
  (.bool true)) (.t 65)), .none⟩]) (.cond (.t 66) (.seq (.reg [⟨(.some 2), (.mv (.k (.bool false))), .none⟩]) .ret) .skip)) (.seq (.seq (.reg [⟨(.some 67), (.mv (.t 3)), .none⟩, ⟨(.some 68), (.mv (.t
  5)), .none⟩, ⟨(.some 69), (.lenS (.t 68)), .none⟩, ⟨(.some 70), (.slS (.t 67) (.some (.t 69)) .none), .none⟩, ⟨(.some 71), (.xe (.cvSB 5) [(.t 70)]), .none⟩, ⟨(.some 72), (.len (.t 71)), .none⟩,
  ⟨(.some 73), (.mv (.k (.int .i64 0))), .none⟩]) (.block 2 (.loop (.seq (.reg [⟨(.some 74), (.bin .lss (.t 73) (.t 72)), .none⟩]) (.seq (.cond (.t 74) .skip (.exit 2)) (.seq (.block 3 (.seq (.reg
  [⟨(.some 75), (.ia 5 (.t 71) (.t 73)), .none⟩, ⟨(.some 76), (.ld .none (.t 75)), .none⟩, ⟨(.some 10), (.mv (.t 76)), .none⟩]) (.seq (.reg [⟨(.some 77), (.mv (.t 10)), .none⟩, ⟨(.some 78), (.bin .lss
  (.t 77) (.k (.int .u8 97))), .none⟩, ⟨(.some 79), (.mv (.t 78)), .none⟩, ⟨(.some 80), (.mv (.t 10)), (.some (79, false))⟩, ⟨(.some 81), (.bin .gtr (.t 80) (.k (.int .u8 122))), (.some (79, false))⟩,
  ⟨(.some 82), (.pick (.t 79) (.k (.bool true)) (.t 81)), .none⟩, ⟨(.some 83), (.mv (.t 82)), .none⟩, ⟨(.some 84), (.mv (.t 10)), (.some (83, true))⟩, ⟨(.some 85), (.bin .lss (.t 84) (.k (.int .u8
  48))), (.some (83, true))⟩, ⟨(.some 86), (.mv (.t 85)), (.some (83, true))⟩, ⟨(.some 87), (.mv (.t 10)), (.some (86, false))⟩, ⟨(.some 88), (.bin .gtr (.t 87) (.k (.int .u8 57))), (.some (86,
  false))⟩, ⟨(.some 89), (.pick (.t 86) (.k (.bool true)) (.t 88)), (.some (83, true))⟩, ⟨(.some 90), (.pick (.t 83) (.t 89) (.k (.bool false))), .none⟩]) (.cond (.t 90) (.seq (.reg [⟨(.some 2), (.mv
  (.k (.bool false))), .none⟩]) .ret) .skip)))) (.reg [⟨(.some 91), (.bin .add (.t 73) (.k (.int .i64 1))), .none⟩, ⟨(.some 73), (.mv (.t 91)), .none⟩]))))))) (.seq (.reg [⟨(.some 92), (.call (.f 14)
  []), .none⟩, ⟨(.some 2), (.mv (.t 92)), .none⟩]) .ret)))
def a6 : ACode :=
  (.seq (.reg [⟨(.some 2), (.mv (.k (.bool false))), .none⟩]) (.seq (.seq (.reg [⟨(.some 11), (.mv (.t 0)), .none⟩, ⟨(.some 12), (.len (.t 11)), .none⟩, ⟨(.some 13), (.bin .gtr (.t 12) (.k (.int .i64
  300))), .none⟩]) (.cond (.t 13) (.seq (.reg [⟨(.some 14), (.call (.f 14) []), .none⟩, ⟨(.some 2), (.mv (.t 14)), .none⟩]) .ret) .skip)) (.seq (.reg [⟨(.some 15), (.mv (.t 0)), .none⟩, ⟨(.some 16),
  (.call (.f 20) [(.t 15)]), .none⟩, ⟨(.some 0), (.mv (.t 16)), .none⟩]) (.seq (.reg [⟨(.some 18), (.mv (.t 0)), .none⟩, ⟨(.some 19), (.call (.f 15) [(.t 18)]), .none⟩, ⟨(.some 17), (.mv (.t 19)),
  .none⟩, ⟨(.some 20), (.ext (.t 17) 0), .none⟩, ⟨(.some 21), (.ext (.t 17) 1), .none⟩, ⟨(.some 3), (.mv (.t 20)), .none⟩, ⟨(.some 4), (.mv (.t 21)), .none⟩]) (.seq (.reg [⟨(.some 5), (.mv (.k (.string
  ⟨#[]⟩))), .none⟩, ⟨(.some 6), (.mv (.k (.int .i64 0))), .none⟩]) (.seq (.seq (.reg [⟨(.some 22), (.mv (.t 0)), .none⟩, ⟨(.some 23), (.len (.t 22)), .none⟩, ⟨(.some 24), (.mv (.k (.int .i64 0))),
  .none⟩]) (.block 0 (.loop (.seq (.reg [⟨(.some 25), (.bin .lss (.t 24) (.t 23)), .none⟩]) (.seq (.cond (.t 25) .skip (.exit 0)) (.seq (.block 1 (.seq (.reg [⟨(.some 26), (.ia 21 (.t 22) (.t 24)),
  .none⟩, ⟨(.some 27), (.ld .none (.t 26)), .none⟩, ⟨(.some 8), (.mv (.t 27)), .none⟩]) (.seq (.reg [⟨(.some 28), (.mv (.t 8)), .none⟩, ⟨(.some 29), (.bin .lss (.t 28) (.k (.int .i32 128))), .none⟩])
  (.cond (.t 29) (.reg [⟨(.some 30), (.mv (.t 5)), .none⟩, ⟨(.some 31), (.mv (.t 8)), .none⟩, ⟨(.some 32), (.cvIS (.t 31)), .none⟩, ⟨(.some 33), (.bin .add (.t 30) (.t 32)), .none⟩, ⟨(.some 5), (.mv (.t
  33)), .none⟩]) (.reg [⟨(.some 34), (.mv (.t 6)), .none⟩, ⟨(.some 35), (.bin .add (.t 34) (.k (.int .i64 1))), .none⟩, ⟨(.some 6), (.mv (.t 35)), .none⟩]))))) (.reg [⟨(.some 36), (.bin .add (.t 24) (.k
  (.int .i64 1))), .none⟩, ⟨(.some 24), (.mv (.t 36)), .none⟩]))))))) (.seq (.seq (.reg [⟨(.some 37), (.mv (.t 5)), .none⟩, ⟨(.some 38), (.bin .neq (.t 37) (.k (.string ⟨#[]⟩))), .none⟩]) (.cond (.t 38)
  (.reg [⟨(.some 39), (.mv (.t 5)), .none⟩, ⟨(.some 40), (.bin .add (.t 39) (.k (.string ⟨#[45]⟩))), .none⟩, ⟨(.some 5), (.mv (.t 40)), .none⟩]) .skip)) a6_7)))))))
theorem c6 : Try.f6.body.bind (cCode Try.prog 93) = some a6 := by kernel_rfl
theorem r6 : Try.f6.results.toList = [(.tmp 2)] := by kernel_rfl
theorem n6 : Try.f6.ntmps = 93 := by kernel_rfl
theorem e6 : Enters Try.prog 6 := enters_of Try.func6 (by kernel_rfl) (by kernel_rfl)

theorem eq_self_txt (a : ByteArray) : binStr .eql a a = some (.bool true) := by simp [binStr]

theorem liteHas_pure (a r : List Nat) (hl : (a ++ r).length ≤ 1099511627776) : Pure Try.prog 53 [.lit (.string (txt (a ++ r))), .lit (.string (txt a))] [] (.lit (.bool true)) := by
  refine pure0 Try.func53 c53 n53 e53 r53 (by simp) (by rfl) ?_
  have d1 : decide (((a ++ r).length : Int) ≥ (a.length : Int)) = true := by simp; omega
  have z1 : (0 ≤ a.length) = True := by simp
  have z2 : (a.length ≤ (a ++ r).length) = True := by simp
  have x1 : (txt (a ++ r)).extract 0 a.length = txt a := by rw [txt_slice, List.drop_zero, List.take_left]
  simp only [a53, astart, argSlots, txt_size, d1, z1, z2, x1, eq_self_txt, if_true, go_sem, Nat.reduceAdd, Nat.reduceEqDiff, Nat.reduceLT, reduceIte, reduceCtorEq, Nat.reduceBEq, Int.reduceLT, Int.reduceToNat, Int.reducePow, Nat.reduceLeDiff, Int.reduceLE, Nat.reduceMul, Nat.reduceSub]
  simp only [Done, resAV, resL, resOne, look_nil, look_cons, Nat.reduceEqDiff, if_true, if_false, reduceIte, ite_true, ite_false, Nat.zero_ne_one, Nat.one_ne_zero, reduceCtorEq, true_or, or_true, true_and, Option.some.injEq, AV.lit.injEq, Value.int.injEq, Value.bool.injEq]
theorem has_pure (a r : List Nat) (hl : (a ++ r).length ≤ 1099511627776) : Pure Try.prog 22 [.lit (.string (txt (a ++ r))), .lit (.string (txt a))] [] (.lit (.bool true)) := by
  refine pure0 Try.func22 c22 n22 e22 r22 (by simp) (by rfl) ?_
  simp only [a22, astart, argSlots, go_sem, Nat.reduceAdd, Nat.reduceEqDiff, Nat.reduceLT, reduceIte, reduceCtorEq, Nat.reduceBEq, Int.reduceLT, Int.reduceToNat, Int.reducePow, Nat.reduceLeDiff, Int.reduceLE, Nat.reduceMul, Nat.reduceSub]
  refine callGo_pure (liteHas_pure a r hl) (by rfl) ?_
  simp only [go_sem, Nat.reduceAdd, Nat.reduceEqDiff, Nat.reduceLT, reduceIte, reduceCtorEq, Nat.reduceBEq, Int.reduceLT, Int.reduceToNat, Int.reducePow, Nat.reduceLeDiff, Int.reduceLE, Nat.reduceMul, Nat.reduceSub]
  simp only [Done, resAV, resL, resOne, look_nil, look_cons, Nat.reduceEqDiff, if_true, if_false, reduceIte, ite_true, ite_false, Nat.zero_ne_one, Nat.one_ne_zero, reduceCtorEq, true_or, or_true, true_and, Option.some.injEq, AV.lit.injEq, Value.int.injEq, Value.bool.injEq]

theorem utf_plain {n : Nat} (h : n < 128) : Utf8.encode (n : Int) = ⟨#[UInt8.ofNat n]⟩ := by
  have : ∀ n : Nat, n < 128 → Utf8.encode (n : Int) = ⟨#[UInt8.ofNat n]⟩ := by decide +kernel
  exact this n h

theorem pln_take (L : List Nat) {i : Nat} (h : i < L.length) : pln (L.take (i + 1)) = pln (L.take i) ++ (if L[i] < 128 then [L[i]] else []) := by
  unfold pln
  rw [List.take_succ_eq_append_getElem h, List.filter_append]
  by_cases hx : L[i] < 128 <;> simp [hx]

set_option maxRecDepth 10000 in
set_option maxHeartbeats 1000000 in
theorem plain_tail {L : List Nat} (hS : Scs L) (hl : L.length ≤ 300) {sl : List (Nat × Option AV)} {nx : Nat}
    (h3 : Ab.look sl 3 = some (.lit (.string (txt (encT L))))) (h4 : Ab.look sl 4 = some (.lit (.int .i64 0))) (h5 : Ab.look sl 5 = some (.lit (.string (txt (headT L))))) (h6 : Ab.look sl 6 = some (.lit (.int .i64 ((opsF L 128).length : Int)))) :
    awp Try.prog 0 a6_7 (fun e s => Done Try.prog [.tmp 2] (.lit (.bool true)) e s) ⟨sl, [], [], nx⟩ := by
  have hel := enc_length hS (by omega)
  have ho := opsF_length L hS.le
  have hP : (pln L).length = (L.filter fun x => decide (x < 128)).length := rfl
  have hdg := digT_ge (L := L)
  have hsp : (encT L).length = (headT L).length + (digT L).length := List.length_append
  have hhas := has_pure (headT L) (digT L) (by rw [List.length_append]; omega)
  rw [← enc_split] at hhas
  have d3 : decide (((encT L).length : Int) < (((headT L).length + (opsF L 128).length : Nat) : Int)) = false := by simp; omega
  have w3 : IntKind.i64.wrap (((headT L).length : Int) + ((opsF L 128).length : Int)) = (((headT L).length + (opsF L 128).length : Nat) : Int) := by rw [← Int.natCast_add]; exact wrapN _ (by omega)
  have z1 : ((headT L).length ≤ (encT L).length) = True := eq_true (by omega)
  have x1 : (txt (encT L)).extract (headT L).length (encT L).length = txt (digT L) := by rw [txt_tail, enc_split, List.drop_left]
  have hD255 : ∀ n ∈ digT L, n ≤ 255 := fun n hn => by have := dig_dig L n hn; omega
  have hop : ((((opsF L 128).length : Int) == 0) = false) ∨ ((((opsF L 128).length : Int) == 0) = true ∧ encT L = headT L) := by
    by_cases h0 : (opsF L 128).length = 0
    · right
      refine ⟨by rw [h0]; rfl, ?_⟩
      rw [enc_split]
      have : digT L = [] := by unfold digT; rw [List.length_eq_zero_iff.1 h0]; rfl
      rw [this, List.append_nil]
    · left; rw [beq_eq_false_iff_ne]; omega
  have rest : ∀ {sl : List (Nat × Option AV)}, Ab.look sl 3 = some (.lit (.string (txt (encT L)))) → Ab.look sl 5 = some (.lit (.string (txt (headT L)))) → True := fun _ _ => trivial
  have hby := enc_by L
  simp only [a6_7, h3, h4, h5, h6, bne_self_eq_false, go_sem, Nat.reduceAdd, Nat.reduceEqDiff, Nat.reduceLT, reduceIte, reduceCtorEq, Nat.reduceBEq, Int.reduceLT, Int.reduceToNat, Int.reducePow, Nat.reduceLeDiff, Int.reduceLE, Nat.reduceMul, Nat.reduceSub]
  refine callGo_pure hhas (by rfl) ?_
  replace hop : ((((opsF L 128).length : Int) == 0) = false) ∨ ((((opsF L 128).length : Int) == 0) = true ∧ binStr .neq (txt (encT L)) (txt (headT L)) = some (.bool false)) :=
    hop.imp id fun h => ⟨h.1, by rw [h.2]; simp [binStr]⟩
  rcases hop with k1 | ⟨k1, k2⟩
  all_goals
    try simp only [h3, h4, h5, h6, txt_size, d3, w3, k1, k2, z1, x1, Nat.le_refl, Bool.not_true, Bool.not_false, if_true, strB_txt hD255, octs_length, go_sem, Nat.reduceAdd, Nat.reduceEqDiff, Nat.reduceLT, reduceIte, reduceCtorEq, Nat.reduceBEq, Int.reduceLT, Int.reduceToNat, Int.reducePow, Nat.reduceLeDiff, Int.reduceLE, Nat.reduceMul, Nat.reduceSub]
    try simp only [h3, h4, h5, h6, txt_size, d3, w3, k1, z1, x1, Nat.le_refl, Bool.not_true, Bool.not_false, if_true, strB_txt hD255, octs_length, go_sem, Nat.reduceAdd, Nat.reduceEqDiff, Nat.reduceLT, reduceIte, reduceCtorEq, Nat.reduceBEq, Int.reduceLT, Int.reduceToNat, Int.reducePow, Nat.reduceLeDiff, Int.reduceLE, Nat.reduceMul, Nat.reduceSub]
    refine loop_by (α := Nat) (fun i => ⟨[(71, some (.sl 5 (octs (digT L)) none)), (72, some (.lit (.int .i64 ((digT L).length : Int)))), (73, some (.lit (.int .i64 (i : Int))))], [], [], nx⟩)
      (fun i => i ≤ (digT L).length) (fun i => (digT L).length - i) (fun x y h => by
        have := congrArg (cnt 73) h
        simp [cnt, Ab.look] at this
        rw [this]) 0 (weak_forget ?_ (List.Sublist.refl _) (List.Sublist.refl _)) (Nat.zero_le _) ?_
    · simp only [go_sem, Nat.reduceAdd, Nat.reduceEqDiff, Nat.reduceLT, reduceIte, reduceCtorEq, Nat.reduceBEq, Int.reduceLT, Int.reduceToNat, Int.reducePow, Nat.reduceLeDiff, Int.reduceLE, Nat.reduceMul, Nat.reduceSub, slotsBy, boxesBy, tipsBy, rawAt, nm, AV.ren, AV.renL, AV.under, AV.underL, List.all_nil, List.all_cons, bne_self_eq_false, List.getD_cons_zero, List.getD_cons_succ, List.length_nil, List.length_cons, and_true, true_and, slotsSub, Int.natCast_zero]
    · intro i hi
      simp only [go_sem, Nat.reduceAdd, Nat.reduceEqDiff, Nat.reduceLT, reduceIte, reduceCtorEq, Nat.reduceBEq, Int.reduceLT, Int.reduceToNat, Int.reducePow, Nat.reduceLeDiff, Int.reduceLE, Nat.reduceMul, Nat.reduceSub]
      rcases Nat.lt_or_eq_of_le hi with hlt | heq
      · have w : IntKind.i64.wrap ((i : Int) + 1) = ((i + 1 : Nat) : Int) := by rw [wrap_i64 _ (by omega) (by omega)]; omega
        have hx := octs_get (digT L) i hlt
        have hdd := dig_dig L _ (List.getElem_mem hlt)
        simp only [dec_lt hlt, hx, go_sem, Nat.reduceAdd, Nat.reduceEqDiff, Nat.reduceLT, reduceIte, reduceCtorEq, Nat.reduceBEq, Int.reduceLT, Int.reduceToNat, Int.reducePow, Nat.reduceLeDiff, Int.reduceLE, Nat.reduceMul, Nat.reduceSub]
        generalize (digT L)[i] = c at *
        rcases hdd with ⟨g1, g2⟩ | ⟨g1, g2⟩
        · have f1 : decide ((c : Int) < 97) = false := by simp; omega
          have f2 : decide ((c : Int) > 122) = false := by simp; omega
          simp only [f1, f2, w, go_sem, Nat.reduceAdd, Nat.reduceEqDiff, Nat.reduceLT, reduceIte, reduceCtorEq, Nat.reduceBEq, Int.reduceLT, Int.reduceToNat, Int.reducePow, Nat.reduceLeDiff, Int.reduceLE, Nat.reduceMul, Nat.reduceSub]
          refine ⟨i + 1, weak_forget ?_ (List.Sublist.refl _) (List.Sublist.refl _), hlt, by omega⟩
          simp only [go_sem, Nat.reduceAdd, Nat.reduceEqDiff, Nat.reduceLT, reduceIte, reduceCtorEq, Nat.reduceBEq, Int.reduceLT, Int.reduceToNat, Int.reducePow, Nat.reduceLeDiff, Int.reduceLE, Nat.reduceMul, Nat.reduceSub, slotsBy, boxesBy, tipsBy, rawAt, nm, AV.ren, AV.renL, AV.under, AV.underL, List.all_nil, List.all_cons, bne_self_eq_false, List.getD_cons_zero, List.getD_cons_succ, List.length_nil, List.length_cons, and_true, true_and, slotsSub]
        · have f1 : decide ((c : Int) < 97) = true := by simp; omega
          have f2 : decide ((c : Int) < 48) = false := by simp; omega
          have f3 : decide ((c : Int) > 57) = false := by simp; omega
          simp only [f1, f2, f3, w, go_sem, Nat.reduceAdd, Nat.reduceEqDiff, Nat.reduceLT, reduceIte, reduceCtorEq, Nat.reduceBEq, Int.reduceLT, Int.reduceToNat, Int.reducePow, Nat.reduceLeDiff, Int.reduceLE, Nat.reduceMul, Nat.reduceSub]
          refine ⟨i + 1, weak_forget ?_ (List.Sublist.refl _) (List.Sublist.refl _), hlt, by omega⟩
          simp only [go_sem, Nat.reduceAdd, Nat.reduceEqDiff, Nat.reduceLT, reduceIte, reduceCtorEq, Nat.reduceBEq, Int.reduceLT, Int.reduceToNat, Int.reducePow, Nat.reduceLeDiff, Int.reduceLE, Nat.reduceMul, Nat.reduceSub, slotsBy, boxesBy, tipsBy, rawAt, nm, AV.ren, AV.renL, AV.under, AV.underL, List.all_nil, List.all_cons, bne_self_eq_false, List.getD_cons_zero, List.getD_cons_succ, List.length_nil, List.length_cons, and_true, true_and, slotsSub]
      · subst heq
        simp only [dec_irr, go_sem, Nat.reduceAdd, Nat.reduceEqDiff, Nat.reduceLT, reduceIte, reduceCtorEq, Nat.reduceBEq, Int.reduceLT, Int.reduceToNat, Int.reducePow, Nat.reduceLeDiff, Int.reduceLE, Nat.reduceMul, Nat.reduceSub]
        refine callGo_pure awake04_pure (by rfl) ?_
        simp only [go_sem, Nat.reduceAdd, Nat.reduceEqDiff, Nat.reduceLT, reduceIte, reduceCtorEq, Nat.reduceBEq, Int.reduceLT, Int.reduceToNat, Int.reducePow, Nat.reduceLeDiff, Int.reduceLE, Nat.reduceMul, Nat.reduceSub]
        simp only [Done, resAV, resL, resOne, look_nil, look_cons, Nat.reduceEqDiff, if_true, if_false, reduceIte, ite_true, ite_false, Nat.zero_ne_one, Nat.one_ne_zero, reduceCtorEq, true_or, or_true, true_and, Option.some.injEq, AV.lit.injEq, Value.int.injEq, Value.bool.injEq]

set_option maxRecDepth 10000 in
set_option maxHeartbeats 1000000 in
theorem punyPlain_pure (l : List Int) (hl : Runes l) : Pure Try.prog 6 [rS l none] [] (.lit (.bool true)) := by
  refine pure0 Try.func6 c6 n6 e6 r6 (by simp) (by rfl) ?_
  simp only [a6, astart, argSlots, runes_length, go_sem, Nat.reduceAdd, Nat.reduceEqDiff, Nat.reduceLT, reduceIte, reduceCtorEq, Nat.reduceBEq, Int.reduceLT, Int.reduceToNat, Int.reducePow, Nat.reduceLeDiff, Int.reduceLE, Nat.reduceMul, Nat.reduceSub]
  by_cases h1 : 300 < l.length
  · have d1 : decide ((l.length : Int) > 300) = true := by simp; omega
    simp only [d1, go_sem, Nat.reduceAdd, Nat.reduceEqDiff, Nat.reduceLT, reduceIte, reduceCtorEq, Nat.reduceBEq, Int.reduceLT, Int.reduceToNat, Int.reducePow, Nat.reduceLeDiff, Int.reduceLE, Nat.reduceMul, Nat.reduceSub]
    refine callGo_pure awake04_pure (by rfl) ?_
    simp only [go_sem, Nat.reduceAdd, Nat.reduceEqDiff, Nat.reduceLT, reduceIte, reduceCtorEq, Nat.reduceBEq, Int.reduceLT, Int.reduceToNat, Int.reducePow, Nat.reduceLeDiff, Int.reduceLE, Nat.reduceMul, Nat.reduceSub]
    simp only [Done, resAV, resL, resOne, look_nil, look_cons, Nat.reduceEqDiff, if_true, if_false, reduceIte, ite_true, ite_false, Nat.zero_ne_one, Nat.one_ne_zero, reduceCtorEq, true_or, or_true, true_and, Option.some.injEq, AV.lit.injEq, Value.int.injEq, Value.bool.injEq]
  have d1 : decide ((l.length : Int) > 300) = false := by simp; omega
  simp only [d1, go_sem, Nat.reduceAdd, Nat.reduceEqDiff, Nat.reduceLT, reduceIte, reduceCtorEq, Nat.reduceBEq, Int.reduceLT, Int.reduceToNat, Int.reducePow, Nat.reduceLeDiff, Int.reduceLE, Nat.reduceMul, Nat.reduceSub]
  refine callGo_pure (scalars_pure l (by omega)) (by rfl) ?_
  have hS := scN_scs l
  have hLl := scN_le l
  rw [← scN_of l]
  generalize scN l = L at *
  simp only [go_sem, Nat.reduceAdd, Nat.reduceEqDiff, Nat.reduceLT, reduceIte, reduceCtorEq, Nat.reduceBEq, Int.reduceLT, Int.reduceToNat, Int.reducePow, Nat.reduceLeDiff, Int.reduceLE, Nat.reduceMul, Nat.reduceSub]
  refine callGo_pure (Encode_pure (ofN L) (by rw [ofN_length]; omega)) (by rfl) ?_
  rw [encR_ok hS (by omega)]
  simp only [runes_length, ofN_length, go_sem, Nat.reduceAdd, Nat.reduceEqDiff, Nat.reduceLT, reduceIte, reduceCtorEq, Nat.reduceBEq, Int.reduceLT, Int.reduceToNat, Int.reducePow, Nat.reduceLeDiff, Int.reduceLE, Nat.reduceMul, Nat.reduceSub]
  have hel := enc_length hS (by omega)
  refine loop_by (α := Nat) (fun i => ⟨[(3, some (.lit (.string (txt (encT L))))), (4, some (.lit (.int .i64 0))), (5, some (.lit (.string (txt (pln (L.take i)))))), (6, some (.lit (.int .i64 ((i - (pln (L.take i)).length : Nat) : Int)))), (22, some (rS (ofN L) none)), (23, some (.lit (.int .i64 (L.length : Int)))), (24, some (.lit (.int .i64 (i : Int))))], [], [], 1⟩)
    (fun i => i ≤ L.length) (fun i => L.length - i) (fun x y h => by
      have := congrArg (cnt 24) h
      simp [cnt, Ab.look] at this
      rw [this]) 0 ((weak_untip 22 (tip := some 0) (by simp only [Ab.look, Nat.reduceEqDiff, if_true, if_false]; rfl)).trans (weak_forget ?_ (List.Sublist.refl _) (List.nil_sublist _))) (Nat.zero_le _) ?_
  · simp only [go_sem, Nat.reduceAdd, Nat.reduceEqDiff, Nat.reduceLT, reduceIte, reduceCtorEq, Nat.reduceBEq, Int.reduceLT, Int.reduceToNat, Int.reducePow, Nat.reduceLeDiff, Int.reduceLE, Nat.reduceMul, Nat.reduceSub, slotsBy, boxesBy, tipsBy, rawAt, nm, AV.ren, AV.renL, AV.under, AV.underL, List.all_nil, List.all_cons, bne_self_eq_false, List.getD_cons_zero, List.getD_cons_succ, List.length_nil, List.length_cons, and_true, true_and, slotsSub, Int.natCast_zero]
    exact ⟨rfl, rfl⟩
  · intro i hi
    have hpl := List.length_filter_le (fun x => decide (x < 128)) (L.take i)
    have hpl2 : (pln (L.take i)).length ≤ i := by
      have := List.length_take_le i L
      unfold pln; omega
    simp only [go_sem, Nat.reduceAdd, Nat.reduceEqDiff, Nat.reduceLT, reduceIte, reduceCtorEq, Nat.reduceBEq, Int.reduceLT, Int.reduceToNat, Int.reducePow, Nat.reduceLeDiff, Int.reduceLE, Nat.reduceMul, Nat.reduceSub]
    rcases Nat.lt_or_eq_of_le hi with hlt | heq
    · have w : IntKind.i64.wrap ((i : Int) + 1) = ((i + 1 : Nat) : Int) := by rw [wrap_i64 _ (by omega) (by omega)]; omega
      have w2 : IntKind.i64.wrap (((i - (pln (L.take i)).length : Nat) : Int) + 1) = ((i - (pln (L.take i)).length + 1 : Nat) : Int) := by rw [wrap_i64 _ (by omega) (by omega)]; omega
      have htk := pln_take L hlt
      have hx := ofN_get hlt
      simp only [dec_lt hlt, hlt, hx, go_sem, Nat.reduceAdd, Nat.reduceEqDiff, Nat.reduceLT, reduceIte, reduceCtorEq, Nat.reduceBEq, Int.reduceLT, Int.reduceToNat, Int.reducePow, Nat.reduceLeDiff, Int.reduceLE, Nat.reduceMul, Nat.reduceSub]
      generalize L[i] = r at *
      by_cases hr : r < 128
      · have d2 : decide ((r : Int) < 128) = true := by simp; omega
        rw [if_pos hr] at htk
        simp only [d2, utf_plain hr, cat_txt _ _ (show (pln (L.take i)).length ≤ 1099511627776 by omega), w, go_sem, Nat.reduceAdd, Nat.reduceEqDiff, Nat.reduceLT, reduceIte, reduceCtorEq, Nat.reduceBEq, Int.reduceLT, Int.reduceToNat, Int.reducePow, Nat.reduceLeDiff, Int.reduceLE, Nat.reduceMul, Nat.reduceSub]
        refine ⟨i + 1, weak_forget ?_ (List.Sublist.refl _) (List.Sublist.refl _), hlt, by omega⟩
        have e : i + 1 - (pln (L.take i) ++ [r]).length = i - (pln (L.take i)).length := by rw [List.length_append, List.length_singleton]; omega
        simp only [e, htk, go_sem, Nat.reduceAdd, Nat.reduceEqDiff, Nat.reduceLT, reduceIte, reduceCtorEq, Nat.reduceBEq, Int.reduceLT, Int.reduceToNat, Int.reducePow, Nat.reduceLeDiff, Int.reduceLE, Nat.reduceMul, Nat.reduceSub, slotsBy, boxesBy, tipsBy, rawAt, nm, AV.ren, AV.renL, AV.under, AV.underL, List.all_nil, List.all_cons, bne_self_eq_false, List.getD_cons_zero, List.getD_cons_succ, List.length_nil, List.length_cons, and_true, true_and, slotsSub]
      · have d2 : decide ((r : Int) < 128) = false := by simp; omega
        rw [if_neg hr, List.append_nil] at htk
        simp only [d2, w, w2, go_sem, Nat.reduceAdd, Nat.reduceEqDiff, Nat.reduceLT, reduceIte, reduceCtorEq, Nat.reduceBEq, Int.reduceLT, Int.reduceToNat, Int.reducePow, Nat.reduceLeDiff, Int.reduceLE, Nat.reduceMul, Nat.reduceSub]
        refine ⟨i + 1, weak_forget ?_ (List.Sublist.refl _) (List.Sublist.refl _), hlt, by omega⟩
        have e : i + 1 - (pln (L.take i)).length = i - (pln (L.take i)).length + 1 := by omega
        simp only [e, htk, go_sem, Nat.reduceAdd, Nat.reduceEqDiff, Nat.reduceLT, reduceIte, reduceCtorEq, Nat.reduceBEq, Int.reduceLT, Int.reduceToNat, Int.reducePow, Nat.reduceLeDiff, Int.reduceLE, Nat.reduceMul, Nat.reduceSub, slotsBy, boxesBy, tipsBy, rawAt, nm, AV.ren, AV.renL, AV.under, AV.underL, List.all_nil, List.all_cons, bne_self_eq_false, List.getD_cons_zero, List.getD_cons_succ, List.length_nil, List.length_cons, and_true, true_and, slotsSub]
    · subst heq
      rw [List.take_length] at hpl2 ⊢
      have ho := opsF_length L hS.le
      have hP : (pln L).length = (L.filter fun x => decide (x < 128)).length := rfl
      have eO : L.length - (pln L).length = (opsF L 128).length := by omega
      simp only [dec_irr, txt_ne0, eO, go_sem, Nat.reduceAdd, Nat.reduceEqDiff, Nat.reduceLT, reduceIte, reduceCtorEq, Nat.reduceBEq, Int.reduceLT, Int.reduceToNat, Int.reducePow, Nat.reduceLeDiff, Int.reduceLE, Nat.reduceMul, Nat.reduceSub]
      by_cases hn : pln L = []
      · have hh : headT L = [] := by unfold headT dash; rw [if_pos hn, hn]; rfl
        simp only [hn, decide_true, Bool.not_true, go_sem, Nat.reduceAdd, Nat.reduceEqDiff, Nat.reduceLT, reduceIte, reduceCtorEq, Nat.reduceBEq, Int.reduceLT, Int.reduceToNat, Int.reducePow, Nat.reduceLeDiff, Int.reduceLE, Nat.reduceMul, Nat.reduceSub]
        exact plain_tail hS (by omega) (by simp only [Ab.look, Nat.reduceEqDiff, if_true, if_false]) (by simp only [Ab.look, Nat.reduceEqDiff, if_true, if_false]) (by simp only [Ab.look, Nat.reduceEqDiff, if_true, if_false, hh]) (by simp only [Ab.look, Nat.reduceEqDiff, if_true, if_false])
      · have hh : pln L ++ [45] = headT L := by unfold headT dash; rw [if_neg hn]
        have e45 : binStr .add (txt (pln L)) ⟨#[45]⟩ = some (.string (txt (headT L))) := by
          rw [← hh]; exact cat_txt (pln L) 45 (by omega)
        simp only [hn, e45, decide_false, Bool.not_false, go_sem, Nat.reduceAdd, Nat.reduceEqDiff, Nat.reduceLT, reduceIte, reduceCtorEq, Nat.reduceBEq, Int.reduceLT, Int.reduceToNat, Int.reducePow, Nat.reduceLeDiff, Int.reduceLE, Nat.reduceMul, Nat.reduceSub]
        exact plain_tail hS (by omega) (by simp only [Ab.look, Nat.reduceEqDiff, if_true, if_false]) (by simp only [Ab.look, Nat.reduceEqDiff, if_true, if_false]) (by simp only [Ab.look, Nat.reduceEqDiff, if_true, if_false]) (by simp only [Ab.look, Nat.reduceEqDiff, if_true, if_false])

theorem punyPlain_any (avs : List AV) (h : Args Try.prog Try.f6.params.toList avs) : Pure Try.prog 6 avs [] (.lit (.bool true)) := by
  have hp : Try.f6.params.toList = [22] := by kernel_rfl
  rw [hp] at h
  obtain ⟨av0, rest0, rfl, a0, rfl⟩ := h
  obtain ⟨z0, rfl, w0, s0⟩ := arg_ints (e := 21) (k := .i32) (by kernel_rfl) (by kernel_rfl) a0
  rw [show Try.prog.bytesOf 21 = 4 from by kernel_rfl] at s0
  exact punyPlain_pure z0 ⟨by omega, fun n hn => by simpa [Lit.wf, IntKind.min, IntKind.max, IntKind.signed, IntKind.bits] using w0 n hn⟩

set_option maxRecDepth 100000 in
theorem punyPlain_lifted (os : Os) (started : os.Started) (H : Type) (enc : TypeId × Value → H) :
    ReturnsInHanded {} Try.checked os 6 .any (Rows.punyPlainSpec.pre6 enc Try.prog Try.f6 Rows.punyPlainRow.domain false) (Rows.punyPlainSpec.post enc Try.prog Try.f6 false true false false) := by
  refine law_returns (C := Try.checked) (tb := 4) (by kernel_rfl) started (by kernel_rfl) Try.func6
    (ChangeSpec.witness6 (enc := enc) (C := Try.checked) false ⟨#[], #[.slice none 0 0], []⟩ 8 (by kernel_rfl) (by kernel_rfl) (by kernel_rfl) (by kernel_rfl))
    (by kernel_rfl) (by kernel_rfl) rfl rfl (by kernel_rfl) (by kernel_rfl) ?_ punyPlain_any
  intro ds hds
  have hp : Try.f6.params.toList = [22] := by kernel_rfl
  rw [hp] at hds
  match ds, hds with
  | [d0], _ => exact ⟨rfl, rfl, rfl⟩

theorem punyPlain_holds : Rows.PunyPlainSaid :=
  OpenClaim.holds_of_wide 6 Try.f6 rfl rfl rfl rfl rfl rfl rfl ⟨rfl, rfl, rfl, rfl, rfl⟩ rfl rfl rfl rfl rfl (by kernel_rfl) Try.func6 (by kernel_rfl)
    (of_decide_eq_true (by kernel_rfl)) (by unfold Func.isWrapper; first | (rw [if_pos (by decide +kernel)]; kernel_rfl) | (rw [if_neg (by decide +kernel)]; exact ⟨rfl, rfl⟩))
    (fun os started H enc _ => punyPlain_lifted os started H enc)
end Go.Proofs.Ytmhpjoadfgplgaa
