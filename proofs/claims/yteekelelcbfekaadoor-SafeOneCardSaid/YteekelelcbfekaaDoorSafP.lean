/-
SafeOne: the codes of a code point are shown as itself just if it is safe. Conditions: none.
-/
import Derived.Test.YteekelelcbfekaaDoorSaMg
import Derived.Laws.RangeAny
set_option linter.unusedSimpArgs false
set_option linter.unusedVariables false
set_option linter.unusedSectionVars false
namespace Go.Proofs.YteekelelcbfekaaDoor
open Go Go.Ab
def a37 : ACode :=
  (.seq (.reg [⟨(.some 6), (.mv (.k (.int .i64 0))), .none⟩]) (.seq (.seq (.reg [⟨(.some 9), (.mv (.t 0)), .none⟩, ⟨(.some 10), (.xe .rngS [(.t 9)]), .none⟩]) (.block 0 (.loop (.seq (.reg [⟨(.some 11),
  (.nxt true (.t 10)), .none⟩, ⟨(.some 12), (.ext (.t 11) 0), .none⟩]) (.seq (.cond (.t 12) .skip (.exit 0)) (.block 1 (.seq (.reg [⟨(.some 13), (.ext (.t 11) 1), .none⟩, ⟨(.some 14), (.ext (.t 11) 2),
  .none⟩, ⟨(.some 7), (.mv (.t 13)), .none⟩, ⟨(.some 8), (.mv (.t 14)), .none⟩]) (.seq (.reg [⟨(.some 15), (.mv (.t 1)), .none⟩, ⟨(.some 16), (.mv (.t 8)), .none⟩, ⟨(.some 17), (.call (.t 15) [(.t
  16)]), .none⟩, ⟨(.some 18), (.mv (.t 2)), .none⟩, ⟨(.some 19), (.eqB false (.t 17) (.t 18)), .none⟩]) (.cond (.t 19) (.seq (.reg [⟨(.some 20), (.mv (.t 7)), .none⟩, ⟨(.some 6), (.mv (.t 20)), .none⟩])
  .ret) .skip))))))))) (.seq (.reg [⟨(.some 6), (.mv (.k (.int .i64 (-1)))), .none⟩]) .ret)))
theorem c37 : Tryd.f37.body.bind (cCode Tryd.prog 21) = some a37 := by kernel_rfl
theorem r37 : Tryd.f37.results.toList = [(.tmp 6)] := by kernel_rfl
theorem n37 : Tryd.f37.ntmps = 21 := by kernel_rfl
theorem e37 : Enters Tryd.prog 37 := Go.Ab.enters_of Tryd.func37 (by kernel_rfl) (by kernel_rfl)
def a19 : ACode :=
  (.seq (.reg [⟨(.some 4), (.mv (.k (.int .i64 0))), .none⟩]) (.seq (.reg [⟨(.some 5), (.mv (.t 0)), .none⟩, ⟨(.some 6), (.mv (.t 1)), .none⟩, ⟨(.some 7), (.call (.f 37) [(.t 5), (.t 6), (.k (.bool
  true))]), .none⟩, ⟨(.some 4), (.mv (.t 7)), .none⟩]) .ret))
theorem c19 : Tryd.f19.body.bind (cCode Tryd.prog 8) = some a19 := by kernel_rfl
theorem r19 : Tryd.f19.results.toList = [(.tmp 4)] := by kernel_rfl
theorem n19 : Tryd.f19.ntmps = 8 := by kernel_rfl
theorem e19 : Enters Tryd.prog 19 := Go.Ab.enters_of Tryd.func19 (by kernel_rfl) (by kernel_rfl)
def a6 : ACode :=
  (.seq (.reg [⟨(.some 4), (.mv (.k (.bool false))), .none⟩]) (.seq (.reg [⟨(.some 5), (.mv (.t 0)), .none⟩, ⟨(.some 6), (.mv (.t 1)), .none⟩, ⟨(.some 7), (.call (.f 19) [(.t 5), (.t 6)]), .none⟩,
  ⟨(.some 8), (.bin .geq (.t 7) (.k (.int .i64 0))), .none⟩, ⟨(.some 4), (.mv (.t 8)), .none⟩]) .ret))
theorem c6 : Tryd.f6.body.bind (cCode Tryd.prog 9) = some a6 := by kernel_rfl
theorem r6 : Tryd.f6.results.toList = [(.tmp 4)] := by kernel_rfl
theorem n6 : Tryd.f6.ntmps = 9 := by kernel_rfl
theorem e6 : Enters Tryd.prog 6 := Go.Ab.enters_of Tryd.func6 (by kernel_rfl) (by kernel_rfl)
def a7 : ACode :=
  (.seq (.reg [⟨(.some 2), (.mv (.k (.bool false))), .none⟩]) (.seq (.reg [⟨(.some 3), (.mv (.t 0)), .none⟩, ⟨(.some 4), (.bin .gtr (.t 3) (.k (.int .i32 127))), .none⟩, ⟨(.some 2), (.mv (.t 4)),
  .none⟩]) .ret))
theorem c7 : Tryd.f7.body.bind (cCode Tryd.prog 5) = some a7 := by kernel_rfl
theorem r7 : Tryd.f7.results.toList = [(.tmp 2)] := by kernel_rfl
theorem n7 : Tryd.f7.ntmps = 5 := by kernel_rfl
theorem e7 : Enters Tryd.prog 7 := Go.Ab.enters_of Tryd.func7 (by kernel_rfl) (by kernel_rfl)
def a3_7 : ACode :=
  (.seq (.seq (.reg [⟨(.some 74), (.mv (.t 2)), .none⟩, ⟨(.some 75), (.call (.f 10) [(.t 74)]), .none⟩, ⟨(.some 76), (.len (.t 75)), .none⟩, ⟨(.some 77), (.mv (.k (.int .i64 0))), .none⟩]) (.block 2
  (.loop (.seq (.reg [⟨(.some 78), (.bin .lss (.t 77) (.t 76)), .none⟩]) (.seq (.cond (.t 78) .skip (.exit 2)) (.seq (.block 3 (.seq (.reg [⟨(.some 79), (.ia 5 (.t 75) (.t 77)), .none⟩, ⟨(.some 80),
  (.ld .none (.t 79)), .none⟩, ⟨(.some 15), (.mv (.t 80)), .none⟩]) (.seq (.reg [⟨(.some 81), (.mv (.t 15)), .none⟩, ⟨(.some 82), (.bin .gtr (.t 81) (.k (.int .u8 127))), .none⟩]) (.cond (.t 82) (.seq
  (.reg [⟨(.some 83), (.call (.f 8) []), .none⟩, ⟨(.some 8), (.mv (.t 83)), .none⟩]) .ret) .skip)))) (.reg [⟨(.some 84), (.bin .add (.t 77) (.k (.int .i64 1))), .none⟩, ⟨(.some 77), (.mv (.t 84)),
  .none⟩]))))))) (.seq (.reg [⟨(.some 85), (.mv (.t 0)), .none⟩, ⟨(.some 86), (.bs 21 1 [(.t 85)]), .none⟩, ⟨(.some 87), (.cvRS (.t 86)), .none⟩, ⟨(.some 16), (.mv (.t 87)), .none⟩]) (.seq (.seq (.reg
  [⟨(.some 88), (.mv (.t 0)), .none⟩, ⟨(.some 89), (.call (.f 13) [(.t 88)]), .none⟩, ⟨(.some 90), (.not (.t 89)), .none⟩]) (.cond (.t 90) (.reg [⟨(.some 91), (.mv (.t 12)), .none⟩, ⟨(.some 16), (.mv
  (.t 91)), .none⟩]) .skip)) (.seq (.dreg [⟨(.some 92), (.mv (.t 1)), .none⟩, ⟨(.some 93), (.mv (.t 12)), .none⟩, ⟨(.some 94), (.bin .add (.t 92) (.t 93)), .none⟩, ⟨(.some 95), (.mv (.t 2)), .none⟩,
  ⟨(.some 96), (.bin .add (.t 94) (.t 95)), .none⟩, ⟨(.some 97), (.mv (.t 1)), .none⟩, ⟨(.some 98), (.call (.f 16) [(.t 97)]), .none⟩, ⟨(.some 99), (.call (.f 15) [(.t 98)]), .none⟩, ⟨(.some 100),
  (.cvRS (.t 99)), .none⟩, ⟨(.some 101), (.mv (.t 16)), .none⟩, ⟨(.some 102), (.bin .add (.t 100) (.t 101)), .none⟩, ⟨(.some 103), (.mv (.t 2)), .none⟩, ⟨(.some 104), (.call (.f 16) [(.t 103)]), .none⟩,
  ⟨(.some 105), (.call (.f 15) [(.t 104)]), .none⟩, ⟨(.some 106), (.cvRS (.t 105)), .none⟩, ⟨(.some 107), (.bin .add (.t 102) (.t 106)), .none⟩, ⟨(.some 108), (.call (.f 14) [(.t 96), (.t 107)]),
  .none⟩, ⟨(.some 109), (.mv (.t 108)), .none⟩, ⟨(.some 110), (.mv (.t 0)), (.some (109, true))⟩, ⟨(.some 111), (.bin .gtr (.t 110) (.k (.int .i32 127))), (.some (109, true))⟩, ⟨(.some 112), (.mv (.t
  111)), (.some (109, true))⟩, ⟨(.some 113), (.mv (.t 0)), (.some (112, false))⟩, ⟨(.some 114), (.call (.f 13) [(.t 113)]), (.some (112, false))⟩, ⟨(.some 115), (.not (.t 114)), (.some (112, false))⟩,
  ⟨(.some 116), (.pick (.t 112) (.k (.bool true)) (.t 115)), (.some (109, true))⟩, ⟨(.some 117), (.pick (.t 109) (.t 116) (.k (.bool false))), .none⟩, ⟨(.some 118), (.mv (.t 117)), .none⟩, ⟨(.some 119),
  (.call (.f 8) []), (.some (118, true))⟩, ⟨(.some 120), (.pick (.t 118) (.t 119) (.k (.bool false))), .none⟩, ⟨(.some 8), (.mv (.t 120)), .none⟩]) .ret))))
def a3_3 : ACode :=
  (.seq (.seq (.reg [⟨(.some 49), (.mv (.t 1)), .none⟩, ⟨(.some 50), (.bin .add (.t 49) (.k (.string ⟨#[37]⟩))), .none⟩, ⟨(.some 51), (.mv (.t 2)), .none⟩, ⟨(.some 52), (.bin .add (.t 50) (.t 51)),
  .none⟩, ⟨(.some 53), (.call (.f 10) [(.t 52)]), .none⟩, ⟨(.some 54), (.len (.t 53)), .none⟩, ⟨(.some 55), (.mv (.k (.int .i64 0))), .none⟩]) (.block 0 (.loop (.seq (.reg [⟨(.some 56), (.bin .lss (.t
  55) (.t 54)), .none⟩]) (.seq (.cond (.t 56) .skip (.exit 0)) (.seq (.block 1 (.seq (.reg [⟨(.some 57), (.ia 5 (.t 53) (.t 55)), .none⟩, ⟨(.some 58), (.ld .none (.t 57)), .none⟩, ⟨(.some 11), (.mv (.t
  58)), .none⟩]) (.seq (.reg [⟨(.some 59), (.mv (.t 11)), .none⟩, ⟨(.some 60), (.bin .gtr (.t 59) (.k (.int .u8 127))), .none⟩]) (.cond (.t 60) (.seq (.reg [⟨(.some 61), (.call (.f 8) []), .none⟩,
  ⟨(.some 8), (.mv (.t 61)), .none⟩]) .ret) .skip)))) (.reg [⟨(.some 62), (.bin .add (.t 55) (.k (.int .i64 1))), .none⟩, ⟨(.some 55), (.mv (.t 62)), .none⟩]))))))) (.seq (.reg [⟨(.some 64), (.mv (.t
  0)), .none⟩, ⟨(.some 65), (.bs 21 1 [(.t 64)]), .none⟩, ⟨(.some 66), (.call (.f 11) [(.k (.int .u8 1)), (.t 65)]), .none⟩, ⟨(.some 63), (.mv (.t 66)), .none⟩, ⟨(.some 67), (.ext (.t 63) 0), .none⟩,
  ⟨(.some 68), (.ext (.t 63) 1), .none⟩, ⟨(.some 12), (.mv (.t 67)), .none⟩, ⟨(.some 13), (.mv (.t 68)), .none⟩]) (.seq (.seq (.reg [⟨(.some 69), (.mv (.t 13)), .none⟩, ⟨(.some 70), (.bin .neq (.t 69)
  (.k (.int .i64 0))), .none⟩]) (.cond (.t 70) (.seq (.reg [⟨(.some 8), (.mv (.k (.bool false))), .none⟩]) .ret) .skip)) (.seq (.seq (.reg [⟨(.some 71), (.mv (.t 3)), .none⟩]) (.cond (.t 71) (.reg
  [⟨(.some 72), (.mv (.t 12)), .none⟩, ⟨(.some 73), (.call (.f 12) [(.t 72)]), .none⟩, ⟨(.some 12), (.mv (.t 73)), .none⟩]) .skip)) a3_7))))
def a3 : ACode :=
  (.seq (.reg [⟨(.some 8), (.mv (.k (.bool false))), .none⟩]) (.seq (.seq (.reg [⟨(.some 17), (.mv (.t 0)), .none⟩, ⟨(.some 18), (.call (.f 5) [(.t 17)]), .none⟩, ⟨(.some 19), (.not (.t 18)), .none⟩,
  ⟨(.some 20), (.mv (.t 19)), .none⟩, ⟨(.some 21), (.mv (.t 1)), (.some (20, false))⟩, ⟨(.some 22), (.lenS (.t 21)), (.some (20, false))⟩, ⟨(.some 23), (.bin .gtr (.t 22) (.k (.int .i64 30))), (.some
  (20, false))⟩, ⟨(.some 24), (.pick (.t 20) (.k (.bool true)) (.t 23)), .none⟩, ⟨(.some 25), (.mv (.t 24)), .none⟩, ⟨(.some 26), (.mv (.t 2)), (.some (25, false))⟩, ⟨(.some 27), (.lenS (.t 26)), (.some
  (25, false))⟩, ⟨(.some 28), (.bin .gtr (.t 27) (.k (.int .i64 30))), (.some (25, false))⟩, ⟨(.some 29), (.pick (.t 25) (.k (.bool true)) (.t 28)), .none⟩, ⟨(.some 30), (.mv (.t 29)), .none⟩, ⟨(.some
  31), (.mv (.t 1)), (.some (30, false))⟩, ⟨(.some 32), (.mv (.t 2)), (.some (30, false))⟩, ⟨(.some 33), (.bin .add (.t 31) (.t 32)), (.some (30, false))⟩, ⟨(.some 34), (.call (.f 6) [(.t 33), (.f 7)]),
  (.some (30, false))⟩, ⟨(.some 35), (.pick (.t 30) (.k (.bool true)) (.t 34)), .none⟩]) (.cond (.t 35) (.seq (.reg [⟨(.some 36), (.call (.f 8) []), .none⟩, ⟨(.some 8), (.mv (.t 36)), .none⟩]) .ret)
  .skip)) (.seq (.seq (.reg [⟨(.some 37), (.mv (.t 1)), .none⟩, ⟨(.some 38), (.call (.f 9) [(.t 37), (.k (.int .u8 37))]), .none⟩, ⟨(.some 9), (.mv (.t 38)), .none⟩]) (.seq (.reg [⟨(.some 39), (.mv (.t
  9)), .none⟩, ⟨(.some 40), (.bin .geq (.t 39) (.k (.int .i64 0))), .none⟩, ⟨(.some 41), (.mv (.t 40)), .none⟩, ⟨(.some 42), (.mv (.t 1)), (.some (41, true))⟩, ⟨(.some 43), (.lenS (.t 42)), (.some (41,
  true))⟩, ⟨(.some 44), (.mv (.t 9)), (.some (41, true))⟩, ⟨(.some 45), (.bin .sub (.t 43) (.t 44)), (.some (41, true))⟩, ⟨(.some 46), (.bin .lss (.t 45) (.k (.int .i64 3))), (.some (41, true))⟩,
  ⟨(.some 47), (.pick (.t 41) (.t 46) (.k (.bool false))), .none⟩]) (.cond (.t 47) (.seq (.reg [⟨(.some 48), (.call (.f 8) []), .none⟩, ⟨(.some 8), (.mv (.t 48)), .none⟩]) .ret) .skip))) a3_3)))
theorem c3 : Tryd.f3.body.bind (cCode Tryd.prog 121) = some a3 := by kernel_rfl
theorem r3 : Tryd.f3.results.toList = [(.tmp 8)] := by kernel_rfl
theorem n3 : Tryd.f3.ntmps = 121 := by kernel_rfl
theorem e3 : Enters Tryd.prog 3 := Go.Ab.enters_of Tryd.func3 (by kernel_rfl) (by kernel_rfl)

theorem one1_pure (r : Int) : Pure Tryd.prog 7 [.lit (.int .i32 r)] [] (.lit (.bool (decide (r > 127)))) := by
  refine pure0 Tryd.func7 c7 n7 e7 r7 (by simp) (by rfl) ?_
  simp only [a7, astart, argSlots, go_sem, Nat.reduceAdd, Nat.reduceEqDiff, Nat.reduceLT, reduceIte, reduceCtorEq, Nat.reduceBEq, Int.reduceLT, Int.reduceToNat, Int.reducePow, Nat.reduceLeDiff, Int.reduceLE, Nat.reduceMul, Nat.reduceSub]
  simp only [Done, resAV, resL, resOne, look_nil, look_cons, Nat.reduceEqDiff, if_true, if_false, reduceIte, ite_true, ite_false, Nat.zero_ne_one, Nat.one_ne_zero, reduceCtorEq, true_or, or_true, true_and, Option.some.injEq, AV.lit.injEq, Value.int.injEq, Value.bool.injEq]

theorem txt_at {b : List Nat} {i : Nat} (h : i < b.length) (hb : ∀ n ∈ b, n ≤ 255) : ∃ hs : i < (txt b).size, ((txt b)[i]'hs).toNat = b[i] := by
  have hs : i < (txt b).size := by rw [txt_size]; exact h
  refine ⟨hs, ?_⟩
  have h1 := txt_get h
  rw [getElem?_pos (txt b) i hs] at h1
  have h2 := hb _ (List.getElem_mem h)
  rw [Option.some.inj h1]
  simp; omega

/-- What a search for a code point beyond ASCII says. -/
def beyond (b : List Nat) : Bool := b.any fun c => decide (127 < c)

set_option maxRecDepth 10000 in
theorem indexFunc_ok (b : List Nat) (hb : ∀ n ∈ b, n ≤ 255) (hl : b.length ≤ 1000000) : ∃ n : Int, decide (n ≥ 0) = beyond b ∧ Pure Tryd.prog 37 [.lit (.string (txt b)), .fn (.func 7) [] [], .lit (.bool true)] [] (.lit (.int .i64 n)) := by
  have key : ∀ n : Int, (∀ pos : Nat, pos < b.length → (∀ c ∈ b.take pos, c ≤ 127) → (∃ c, b[pos]? = some c ∧ 127 < c) → n = (pos : Int)) → ((∀ c ∈ b, c ≤ 127) → n = -1) → Pure Tryd.prog 37 [.lit (.string (txt b)), .fn (.func 7) [] [], .lit (.bool true)] [] (.lit (.int .i64 n)) := fun n hn1 hn2 => by
    refine pure0 Tryd.func37 c37 n37 e37 r37 (by simp) (by rfl) ?_
    simp only [a37, astart, argSlots, go_sem, Nat.reduceAdd, Nat.reduceEqDiff, Nat.reduceLT, reduceIte, reduceCtorEq, Nat.reduceBEq, Int.reduceLT, Int.reduceToNat, Int.reducePow, Nat.reduceLeDiff, Int.reduceLE, Nat.reduceMul, Nat.reduceSub]
    refine loop_by (α := Nat) (fun pos => ⟨[(1, some (.fn (.func 7) [] [])), (2, some (.lit (.bool true))), (10, some (.rf .iter 0))], [(0, [.ob (.iter (txt b) pos) []])], [], 1⟩)
      (fun pos => pos ≤ b.length ∧ ∀ c ∈ b.take pos, c ≤ 127) (fun pos => b.length - pos) (fun x y h => by
        have := congrArg (fun z => match z.boxes with | [(_, [.ob (.iter _ p) _])] => p | _ => 0) h
        simp at this
        rw [this]) 0 (weak_forget ?_ (List.Sublist.refl _) (List.Sublist.refl _)) ⟨Nat.zero_le _, by simp⟩ ?_
    · simp only [go_sem, Nat.reduceAdd, Nat.reduceEqDiff, Nat.reduceLT, reduceIte, reduceCtorEq, Nat.reduceBEq, Int.reduceLT, Int.reduceToNat, Int.reducePow, Nat.reduceLeDiff, Int.reduceLE, Nat.reduceMul, Nat.reduceSub, slotsBy, boxesBy, tipsBy, rawAt, nm, AV.ren, AV.renL, AV.under, AV.underL, List.all_nil, List.all_cons, bne_self_eq_false, List.getD_cons_zero, List.getD_cons_succ, List.length_nil, List.length_cons, and_true, true_and, slotsSub]
    · rintro pos ⟨h1, h2⟩
      simp only [go_sem, Nat.reduceAdd, Nat.reduceEqDiff, Nat.reduceLT, reduceIte, reduceCtorEq, Nat.reduceBEq, Int.reduceLT, Int.reduceToNat, Int.reducePow, Nat.reduceLeDiff, Int.reduceLE, Nat.reduceMul, Nat.reduceSub]
      refine next_str (b := txt b) (pos := pos) (cs := []) (by simp only [obAt, if_true]) (fun hlt => ?_) (fun hge => ?_)
      · rw [txt_size] at hlt
        obtain ⟨hs, hv⟩ := txt_at hlt hb
        simp only [go_sem, Nat.reduceAdd, Nat.reduceEqDiff, Nat.reduceLT, reduceIte, reduceCtorEq, Nat.reduceBEq, Int.reduceLT, Int.reduceToNat, Int.reducePow, Nat.reduceLeDiff, Int.reduceLE, Nat.reduceMul, Nat.reduceSub]
        by_cases hc : b[pos] ≤ 127
        · have hd := decode_ascii (txt b) pos hs (by rw [hv]; omega)
          rw [hv] at hd
          rw [hd]
          have d1 : decide (((b[pos] : Nat) : Int) > 127) = false := by simp; omega
          simp only [go_sem, Nat.reduceAdd, Nat.reduceEqDiff, Nat.reduceLT, reduceIte, reduceCtorEq, Nat.reduceBEq, Int.reduceLT, Int.reduceToNat, Int.reducePow, Nat.reduceLeDiff, Int.reduceLE, Nat.reduceMul, Nat.reduceSub]
          refine callGo_pure (one1_pure ((b[pos] : Nat) : Int)) (by rfl) ?_
          have f1 : (false == true) = false := rfl
          simp only [d1, f1, go_sem, Nat.reduceAdd, Nat.reduceEqDiff, Nat.reduceLT, reduceIte, reduceCtorEq, Nat.reduceBEq, Int.reduceLT, Int.reduceToNat, Int.reducePow, Nat.reduceLeDiff, Int.reduceLE, Nat.reduceMul, Nat.reduceSub]
          refine ⟨pos + 1, weak_forget ?_ (List.Sublist.refl _) (List.Sublist.refl _), ⟨hlt, ?_⟩, by omega⟩
          · simp only [go_sem, Nat.reduceAdd, Nat.reduceEqDiff, Nat.reduceLT, reduceIte, reduceCtorEq, Nat.reduceBEq, Int.reduceLT, Int.reduceToNat, Int.reducePow, Nat.reduceLeDiff, Int.reduceLE, Nat.reduceMul, Nat.reduceSub, slotsBy, boxesBy, tipsBy, rawAt, nm, AV.ren, AV.renL, AV.under, AV.underL, List.all_nil, List.all_cons, bne_self_eq_false, List.getD_cons_zero, List.getD_cons_succ, List.length_nil, List.length_cons, and_true, true_and, slotsSub]
          · intro c hcm
            rw [List.take_succ_eq_append_getElem hlt] at hcm
            rcases List.mem_append.1 hcm with hcm | hcm
            · exact h2 c hcm
            · simp at hcm; omega
        · have hd := (Go.decode_high (txt b) pos hs (by rw [hv]; omega)).1
          have d1 : decide ((((Utf8.decode (txt b) pos).1 : Nat) : Int) > 127) = true := by simp; omega
          have hn := hn1 pos hlt h2 ⟨b[pos], List.getElem?_eq_getElem hlt, by omega⟩
          subst hn
          refine callGo_pure (one1_pure (((Utf8.decode (txt b) pos).1 : Nat) : Int)) (by rfl) ?_
          simp only [d1, beq_self_eq_true, go_sem, Nat.reduceAdd, Nat.reduceEqDiff, Nat.reduceLT, reduceIte, reduceCtorEq, Nat.reduceBEq, Int.reduceLT, Int.reduceToNat, Int.reducePow, Nat.reduceLeDiff, Int.reduceLE, Nat.reduceMul, Nat.reduceSub]
          simp only [Done, resAV, resL, resOne, look_nil, look_cons, Nat.reduceEqDiff, if_true, if_false, reduceIte, ite_true, ite_false, Nat.zero_ne_one, Nat.one_ne_zero, reduceCtorEq, true_or, or_true, true_and, Option.some.injEq, AV.lit.injEq, Value.int.injEq, Value.bool.injEq]
      · rw [txt_size] at hge
        have hp : pos = b.length := by omega
        subst hp
        rw [List.take_length] at h2
        have hn := hn2 h2
        subst hn
        simp only [go_sem, Nat.reduceAdd, Nat.reduceEqDiff, Nat.reduceLT, reduceIte, reduceCtorEq, Nat.reduceBEq, Int.reduceLT, Int.reduceToNat, Int.reducePow, Nat.reduceLeDiff, Int.reduceLE, Nat.reduceMul, Nat.reduceSub]
        simp only [Done, resAV, resL, resOne, look_nil, look_cons, Nat.reduceEqDiff, if_true, if_false, reduceIte, ite_true, ite_false, Nat.zero_ne_one, Nat.one_ne_zero, reduceCtorEq, true_or, or_true, true_and, Option.some.injEq, AV.lit.injEq, Value.int.injEq, Value.bool.injEq]
  by_cases h : ∃ pos : Nat, pos < b.length ∧ (∀ c ∈ b.take pos, c ≤ 127) ∧ ∃ c, b[pos]? = some c ∧ 127 < c
  · obtain ⟨pos, h1, h2, c, h3, h4⟩ := h
    refine ⟨(pos : Int), ?_, key _ (fun p k1 k2 ⟨d, k3, k4⟩ => ?_) (fun k => ?_)⟩
    · have : beyond b = true := List.any_eq_true.2 ⟨c, List.mem_of_getElem? h3, by simpa using h4⟩
      rw [this]; simp
    · rcases Nat.lt_trichotomy pos p with hlt | heq | hgt
      · have : c ∈ b.take p := List.mem_of_getElem? (i := pos) (by rw [List.getElem?_take, if_pos hlt]; exact h3)
        have := k2 c this
        omega
      · rw [heq]
      · have : d ∈ b.take pos := List.mem_of_getElem? (i := p) (by rw [List.getElem?_take, if_pos hgt]; exact k3)
        have := h2 d this
        omega
    · have := k c (List.mem_of_getElem? h3); omega
  · have hall : ∀ n : Nat, n ≤ b.length → ∀ c ∈ b.take n, c ≤ 127 := by
      intro n
      induction n with
      | zero => intro _ c hc; simp at hc
      | succ n ih =>
        intro hn c hc
        rw [List.take_succ_eq_append_getElem (by omega)] at hc
        rcases List.mem_append.1 hc with hc | hc
        · exact ih (by omega) c hc
        · simp at hc
          subst hc
          rcases Nat.lt_or_ge 127 b[n] with h5 | h5
          · exact absurd ⟨n, by omega, ih (by omega), b[n], List.getElem?_eq_getElem (by omega), h5⟩ h
          · exact h5
    have hall2 : ∀ c ∈ b, c ≤ 127 := by have := hall b.length (Nat.le_refl _); rwa [List.take_length] at this
    refine ⟨-1, ?_, key _ (fun p k1 k2 k3 => absurd ⟨p, k1, k2, k3⟩ h) (fun _ => rfl)⟩
    have : beyond b = false := by
      unfold beyond
      rw [List.any_eq_false]
      intro c hc
      have := hall2 c hc
      simp; omega
    rw [this]; rfl

theorem containsFunc_pure (b : List Nat) (hb : ∀ n ∈ b, n ≤ 255) (hl : b.length ≤ 1000000) : Pure Tryd.prog 6 [.lit (.string (txt b)), .fn (.func 7) [] []] [] (.lit (.bool (beyond b))) := by
  obtain ⟨n, h1, h2⟩ := indexFunc_ok b hb hl
  have hx : Pure Tryd.prog 19 [.lit (.string (txt b)), .fn (.func 7) [] []] [] (.lit (.int .i64 n)) := by
    refine pure0 Tryd.func19 c19 n19 e19 r19 (by simp) (by rfl) ?_
    simp only [a19, astart, argSlots, go_sem, Nat.reduceAdd, Nat.reduceEqDiff, Nat.reduceLT, reduceIte, reduceCtorEq, Nat.reduceBEq, Int.reduceLT, Int.reduceToNat, Int.reducePow, Nat.reduceLeDiff, Int.reduceLE, Nat.reduceMul, Nat.reduceSub]
    refine callGo_pure h2 (by rfl) ?_
    simp only [go_sem, Nat.reduceAdd, Nat.reduceEqDiff, Nat.reduceLT, reduceIte, reduceCtorEq, Nat.reduceBEq, Int.reduceLT, Int.reduceToNat, Int.reducePow, Nat.reduceLeDiff, Int.reduceLE, Nat.reduceMul, Nat.reduceSub]
    simp only [Done, resAV, resL, resOne, look_nil, look_cons, Nat.reduceEqDiff, if_true, if_false, reduceIte, ite_true, ite_false, Nat.zero_ne_one, Nat.one_ne_zero, reduceCtorEq, true_or, or_true, true_and, Option.some.injEq, AV.lit.injEq, Value.int.injEq, Value.bool.injEq]
  refine pure0 Tryd.func6 c6 n6 e6 r6 (by simp) (by rfl) ?_
  simp only [a6, astart, argSlots, go_sem, Nat.reduceAdd, Nat.reduceEqDiff, Nat.reduceLT, reduceIte, reduceCtorEq, Nat.reduceBEq, Int.reduceLT, Int.reduceToNat, Int.reducePow, Nat.reduceLeDiff, Int.reduceLE, Nat.reduceMul, Nat.reduceSub]
  refine callGo_pure hx (by rfl) ?_
  simp only [h1, go_sem, Nat.reduceAdd, Nat.reduceEqDiff, Nat.reduceLT, reduceIte, reduceCtorEq, Nat.reduceBEq, Int.reduceLT, Int.reduceToNat, Int.reducePow, Nat.reduceLeDiff, Int.reduceLE, Nat.reduceMul, Nat.reduceSub]
  simp only [Done, resAV, resL, resOne, look_nil, look_cons, Nat.reduceEqDiff, if_true, if_false, reduceIte, ite_true, ite_false, Nat.zero_ne_one, Nat.one_ne_zero, reduceCtorEq, true_or, or_true, true_and, Option.some.injEq, AV.lit.injEq, Value.int.injEq, Value.bool.injEq]
end Go.Proofs.YteekelelcbfekaaDoor
