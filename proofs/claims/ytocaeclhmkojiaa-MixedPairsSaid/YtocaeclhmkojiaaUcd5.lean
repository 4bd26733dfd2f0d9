/-
The rows of the table, put together. Conditions: none.
-/
import Derived.Test.YtocaeclhmkojiaaUcd4
import Derived.Test.YtocaeclhmkojiaaMix6
set_option linter.unusedSimpArgs false
set_option linter.unusedVariables false
set_option linter.unusedSectionVars false
namespace Go.Proofs.Ytocaeclhmkojiaa
open Go Go.Ab
def a98 : ACode :=
  (.seq (.reg [⟨(.some 4), (.mv (.k (.slice .none 0 0))), .none⟩]) (.seq (.seq (.reg [⟨(.some 5), (.mv (.t 1)), .none⟩, ⟨(.some 6), (.bin .lss (.t 5) (.k (.int .i64 0))), .none⟩]) (.cond (.t 6) (.reg
  [⟨(.some 7), .dead, .none⟩, ⟨.none, .dead, .none⟩]) .skip)) (.seq (.seq (.reg [⟨(.some 8), (.mv (.t 1)), .none⟩, ⟨(.some 9), (.mv (.t 0)), .none⟩, ⟨(.some 10), (.xv .capM [(.t 9)]), .none⟩, ⟨(.some
  11), (.mv (.t 0)), .none⟩, ⟨(.some 12), (.len (.t 11)), .none⟩, ⟨(.some 13), (.bin .sub (.t 10) (.t 12)), .none⟩, ⟨(.some 14), (.bin .sub (.t 8) (.t 13)), .none⟩, ⟨(.some 1), (.mv (.t 14)), .none⟩])
  (.seq (.reg [⟨(.some 15), (.mv (.t 1)), .none⟩, ⟨(.some 16), (.bin .gtr (.t 15) (.k (.int .i64 0))), .none⟩]) (.cond (.t 16) (.reg [⟨(.some 17), (.mv (.t 0)), .none⟩, ⟨(.some 18), (.mv (.t 0)),
  .none⟩, ⟨(.some 19), (.xv .capM [(.t 18)]), .none⟩, ⟨(.some 20), (.slc 49 (.t 17) .none (.some (.t 19))), .none⟩, ⟨(.some 21), (.mv (.t 1)), .none⟩, ⟨(.some 22), (.xe (.apz 49 9 16 [(.int .i32 0),
  (.int .i32 0), (.int .u8 0), (.int .u8 0), (.int .u8 0), (.int .u8 0), (.int .u8 0), (.int .u8 0), (.int .u8 0)]) [(.t 20), (.t 21)]), .none⟩, ⟨(.some 23), (.mv (.t 0)), .none⟩, ⟨(.some 24), (.len (.t
  23)), .none⟩, ⟨(.some 25), (.slc 49 (.t 22) .none (.some (.t 24))), .none⟩, ⟨(.some 0), (.mv (.t 25)), .none⟩]) .skip))) (.seq (.reg [⟨(.some 26), (.mv (.t 0)), .none⟩, ⟨(.some 4), (.mv (.t 26)),
  .none⟩]) .ret))))
theorem c98 : Try.f98.body.bind (cCode Try.prog 27) = some a98 := by kernel_rfl
theorem r98 : Try.f98.results.toList = [(.tmp 4)] := by kernel_rfl
theorem n98 : Try.f98.ntmps = 27 := by kernel_rfl
theorem e98 : Enters Try.prog 98 := enters_of Try.func98 (by kernel_rfl) (by kernel_rfl)
def a75 : ACode :=
  (.seq (.reg [⟨(.some 2), (.mv (.k (.slice .none 0 0))), .none⟩]) (.seq (.reg [⟨(.some 3), (.mv (.k (.int .i64 0))), .none⟩]) (.seq (.seq (.reg [⟨(.some 9), (.mv (.t 0)), .none⟩, ⟨(.some 10), (.len (.t
  9)), .none⟩, ⟨(.some 11), (.mv (.k (.int .i64 0))), .none⟩]) (.block 0 (.loop (.seq (.reg [⟨(.some 12), (.bin .lss (.t 11) (.t 10)), .none⟩]) (.seq (.cond (.t 12) .skip (.exit 0)) (.seq (.block 1
  (.seq (.reg [⟨(.some 13), (.ia 46 (.t 9) (.t 11)), .none⟩, ⟨(.some 14), (.ld .none (.t 13)), .none⟩, ⟨(.some 5), (.mv (.t 14)), .none⟩]) (.seq (.reg [⟨(.some 15), (.mv (.t 3)), .none⟩, ⟨(.some 16),
  (.mv (.t 5)), .none⟩, ⟨(.some 17), (.len (.t 16)), .none⟩, ⟨(.some 18), (.bin .add (.t 15) (.t 17)), .none⟩, ⟨(.some 3), (.mv (.t 18)), .none⟩]) (.seq (.reg [⟨(.some 19), (.mv (.t 3)), .none⟩, ⟨(.some
  20), (.bin .lss (.t 19) (.k (.int .i64 0))), .none⟩]) (.cond (.t 20) (.reg [⟨(.some 21), .dead, .none⟩, ⟨.none, .dead, .none⟩]) .skip))))) (.reg [⟨(.some 22), (.bin .add (.t 11) (.k (.int .i64 1))),
  .none⟩, ⟨(.some 11), (.mv (.t 22)), .none⟩]))))))) (.seq (.reg [⟨(.some 23), (.mv (.t 3)), .none⟩, ⟨(.some 24), (.call (.f 98) [(.k (.slice .none 0 0)), (.t 23)]), .none⟩, ⟨(.some 6), (.mv (.t 24)),
  .none⟩]) (.seq (.seq (.reg [⟨(.some 25), (.mv (.t 0)), .none⟩, ⟨(.some 26), (.len (.t 25)), .none⟩, ⟨(.some 27), (.mv (.k (.int .i64 0))), .none⟩]) (.block 2 (.loop (.seq (.reg [⟨(.some 28), (.bin
  .lss (.t 27) (.t 26)), .none⟩]) (.seq (.cond (.t 28) .skip (.exit 2)) (.seq (.block 3 (.seq (.reg [⟨(.some 29), (.ia 46 (.t 25) (.t 27)), .none⟩, ⟨(.some 30), (.ld .none (.t 29)), .none⟩, ⟨(.some 8),
  (.mv (.t 30)), .none⟩]) (.reg [⟨(.some 31), (.mv (.t 6)), .none⟩, ⟨(.some 32), (.mv (.t 8)), .none⟩, ⟨(.some 33), (.app 49 16 (.t 31) (.t 32)), .none⟩, ⟨(.some 6), (.mv (.t 33)), .none⟩]))) (.reg
  [⟨(.some 34), (.bin .add (.t 27) (.k (.int .i64 1))), .none⟩, ⟨(.some 27), (.mv (.t 34)), .none⟩]))))))) (.seq (.reg [⟨(.some 35), (.mv (.t 6)), .none⟩, ⟨(.some 2), (.mv (.t 35)), .none⟩]) .ret))))))
theorem c75 : Try.f75.body.bind (cCode Try.prog 36) = some a75 := by kernel_rfl
theorem r75 : Try.f75.results.toList = [(.tmp 2)] := by kernel_rfl
theorem n75 : Try.f75.ntmps = 36 := by kernel_rfl
theorem e75 : Enters Try.prog 75 := enters_of Try.func75 (by kernel_rfl) (by kernel_rfl)

/-- The rows of the first parts. -/
def rowsTo (ps : List (List (List Value) × Option Nat)) (i : Nat) : List (List Value) := (ps.take i).flatMap (·.1)
theorem rowsTo_zero (ps : List (List (List Value) × Option Nat)) : rowsTo ps 0 = [] := rfl
theorem rowsTo_succ (ps : List (List (List Value) × Option Nat)) {i : Nat} {p : List (List Value) × Option Nat} (h : ps[i]? = some p) : rowsTo ps (i + 1) = rowsTo ps i ++ p.1 := by
  obtain ⟨hi, rfl⟩ := List.getElem?_eq_some_iff.1 h
  unfold rowsTo
  rw [List.take_succ_eq_append_getElem hi, List.flatMap_append]
  simp
theorem rowsTo_le (ps : List (List (List Value) × Option Nat)) {i : Nat} (h : i ≤ ps.length) : (rowsTo ps i).length ≤ (rowsTo ps ps.length).length := by
  unfold rowsTo
  rw [List.take_length]
  conv => rhs; rw [← List.take_append_drop i ps, List.flatMap_append, List.length_append]
  omega
def avsOf (ps : List (List (List Value) × Option Nat)) : List AV := ps.map fun p => .sl 49 p.1 p.2
theorem avsOf_length (ps : List (List (List Value) × Option Nat)) : (avsOf ps).length = ps.length := by simp [avsOf]
theorem avsOf_get (ps : List (List (List Value) × Option Nat)) {i : Nat} {p : List (List Value) × Option Nat} (h : ps[i]? = some p) : (avsOf ps)[i]? = some (.sl 49 p.1 p.2) := by simp [avsOf, h]

theorem lenAll_flat (k : Nat) : ∀ (l : List (List Value)), lenAll k l = true → l.flatten.length = l.length * k
  | [], _ => by simp
  | x :: l, h => by
    simp only [lenAll, Bool.and_eq_true, decide_eq_true_eq] at h
    rw [List.flatten_cons, List.length_append, lenAll_flat k l h.2, h.1, List.length_cons, Nat.succ_mul]; omega
theorem lenAll_app (k : Nat) : ∀ (l m : List (List Value)), lenAll k (l ++ m) = (lenAll k l && lenAll k m)
  | [], m => by simp [lenAll]
  | x :: l, m => by simp only [List.cons_append, lenAll, lenAll_app k l m, Bool.and_assoc]
theorem oneV_app : ∀ (l m : List (List Value)), oneV (l ++ m) = (oneV l && oneV m)
  | [], m => by simp [oneV]
  | x :: l, m => by simp only [List.cons_append, oneV, oneV_app l m, Bool.and_assoc]
theorem unOb_lits : ∀ l : List Value, unOb (l.map .lit) = some (l.map .lit)
  | [] => rfl
  | v :: l => unOb_lit v (l.map .lit)
theorem rowsTo_nine {ps : List (List (List Value) × Option Nat)} (h : ∀ p ∈ ps, lenAll 9 p.1 = true ∧ oneV p.1 = true) : ∀ i, lenAll 9 (rowsTo ps i) = true ∧ oneV (rowsTo ps i) = true
  | 0 => by simp [rowsTo_zero, lenAll, oneV]
  | i + 1 => by
    cases hx : ps[i]? with
    | none => have he : rowsTo ps (i + 1) = rowsTo ps i := by
                unfold rowsTo; rw [List.take_of_length_le (by simpa using Nat.le_succ_of_le (List.getElem?_eq_none_iff.1 hx)), List.take_of_length_le (by simpa using hx)]
              rw [he]; exact rowsTo_nine h i
    | some p => rw [rowsTo_succ ps hx, lenAll_app, oneV_app, (rowsTo_nine h i).1, (rowsTo_nine h i).2, (h p (List.mem_of_getElem? hx)).1, (h p (List.mem_of_getElem? hx)).2]; exact ⟨rfl, rfl⟩
theorem rowsTo_flat {ps : List (List (List Value) × Option Nat)} (h : ∀ p ∈ ps, lenAll 9 p.1 = true ∧ oneV p.1 = true) (i : Nat) : (rowsTo ps i).flatten.length = (rowsTo ps i).length * 9 := lenAll_flat 9 _ (rowsTo_nine h i).1

set_option maxRecDepth 10000 in
theorem concat_go (ps : List (List (List Value) × Option Nat)) (hn : ps.length ≤ 1000) (h0 : 0 < (rowsTo ps ps.length).length) (hl : (rowsTo ps ps.length).length ≤ 1000000)
    (hnine : ∀ p ∈ ps, lenAll 9 p.1 = true ∧ oneV p.1 = true) {tp : List (Nat × TypeId)} {nx : Nat} {Q : Exit → State → Prop}
    (hQ : ∀ (slots : List (Nat × Option AV)) (id nx' : Nat) (rest : List Value), nx ≤ id → id < nx' → Go.Ab.look slots 2 = some (.rf (.row 49 9 0 (rowsTo ps ps.length).length) id) → Q .ret ⟨slots, [(id, ((rowsTo ps ps.length).flatten ++ rest).map .lit)], tp, nx'⟩) :
    awp Try.prog nx a75 Q ⟨[(0, some (.sn 46 (avsOf ps)))], [], tp, nx⟩ := by
  simp only [a75, astart, argSlots, go_sem, Nat.reduceAdd, Nat.reduceEqDiff, Nat.reduceLT, reduceIte, reduceCtorEq, Nat.reduceBEq, Int.reduceLT, Int.reduceToNat, Int.reducePow, Nat.reduceLeDiff, Int.reduceLE, Nat.reduceMul, Nat.reduceSub, avsOf_length]
  refine loop_to ps.length (fun i => ⟨[(0, some (.sn 46 (avsOf ps))), (3, some (.lit (.int .i64 (rowsTo ps i).length))), (9, some (.sn 46 (avsOf ps))), (10, some (.lit (.int .i64 ps.length))), (11, some (.lit (.int .i64 i)))], [], tp, nx⟩) (fun i => i ≤ ps.length)
    (weak_slots ?_) (Nat.zero_le _) ?_ ?_
  · simp only [slotsSub, go_sem, Nat.reduceAdd, Nat.reduceEqDiff, Nat.reduceLT, reduceIte, reduceCtorEq, Nat.reduceBEq, Int.reduceLT, Int.reduceToNat, Int.reducePow, Nat.reduceLeDiff, Int.reduceLE, Nat.reduceMul, Nat.reduceSub, rowsTo_zero, Int.natCast_zero]
  · intro i hi _
    have hx := List.getElem?_eq_getElem hi
    have hle := rowsTo_le ps (i := i + 1) (by omega)
    rw [rowsTo_succ ps hx, List.length_append] at hle
    simp only [dec_lt hi, go_sem, Nat.reduceAdd, Nat.reduceEqDiff, Nat.reduceLT, reduceIte, reduceCtorEq, Nat.reduceBEq, Int.reduceLT, Int.reduceToNat, Int.reducePow, Nat.reduceLeDiff, Int.reduceLE, Nat.reduceMul, Nat.reduceSub, Int.natCast_nonneg, Int.toNat_natCast, avsOf_get ps hx, avsOf_length]
    have hw : IntKind.i64.wrap (((rowsTo ps i).length : Int) + (ps[i].1.length : Int)) = ((rowsTo ps (i + 1)).length : Int) := by rw [wrap_i64 _ (by omega) (by omega), rowsTo_succ ps hx, List.length_append]; omega
    have hd : decide (((rowsTo ps (i + 1)).length : Int) < 0) = false := by simp
    have hw2 : IntKind.i64.wrap ((i : Int) + 1) = ((i + 1 : Nat) : Int) := by rw [wrap_i64 _ (by omega) (by omega)]; omega
    simp only [hw, hd, hw2, go_sem, Nat.reduceAdd, Nat.reduceEqDiff, Nat.reduceLT, reduceIte, reduceCtorEq, Nat.reduceBEq, Int.reduceLT, Int.reduceToNat, Int.reducePow, Nat.reduceLeDiff, Int.reduceLE, Nat.reduceMul, Nat.reduceSub]
    exact ⟨weak_slots (by simp only [slotsSub, go_sem, Nat.reduceAdd, Nat.reduceEqDiff, Nat.reduceLT, reduceIte, reduceCtorEq, Nat.reduceBEq, Int.reduceLT, Int.reduceToNat, Int.reducePow, Nat.reduceLeDiff, Int.reduceLE, Nat.reduceMul, Nat.reduceSub]), by omega⟩
  · intro _
    simp only [Int.lt_irrefl, go_sem, Nat.reduceAdd, Nat.reduceEqDiff, Nat.reduceLT, reduceIte, reduceCtorEq, Nat.reduceBEq, Int.reduceLT, Int.reduceToNat, Int.reducePow, Nat.reduceLeDiff, Int.reduceLE, Nat.reduceMul, Nat.reduceSub]
    refine callGo_walk Try.func98 c98 n98 e98 r98 (by simp) ?_
    have h00 : decide (((rowsTo ps ps.length).length : Int) < 0) = false := by simp
    have hw : IntKind.i64.wrap (((rowsTo ps ps.length).length : Int) - 0) = ((rowsTo ps ps.length).length : Int) := by rw [wrap_i64 _ (by omega) (by omega)]; omega
    have hw0 : IntKind.i64.wrap (0 - 0) = 0 := rfl
    have hgt : decide (((rowsTo ps ps.length).length : Int) > 0) = true := by simp only [decide_eq_true_eq]; omega
    generalize hN : (rowsTo ps ps.length).length = N at *
    simp only [a98, astart, argSlots, go_sem, Nat.reduceAdd, Nat.reduceEqDiff, Nat.reduceLT, reduceIte, reduceCtorEq, Nat.reduceBEq, Int.reduceLT, Int.reduceToNat, Int.reducePow, Nat.reduceLeDiff, Int.reduceLE, Nat.reduceMul, Nat.reduceSub, h00, hw, hw0, hgt]
    rw [if_pos (by omega)]
    have hb0 : (if 0 ≤ 0 ∧ 0 ≤ N then some (0, 0) else none : Option (Nat × Nat)) = some (0, 0) := by simp
    simp only [go_sem, Nat.reduceAdd, Nat.reduceEqDiff, Nat.reduceLT, reduceIte, reduceCtorEq, Nat.reduceBEq, Int.reduceLT, Int.reduceToNat, Int.reducePow, Nat.reduceLeDiff, Int.reduceLE, Nat.reduceMul, Nat.reduceSub, hb0, Nat.zero_mul, Nat.sub_self]
    refine ⟨by simp, .rf (.row 49 9 0 0) nx, by simp only [resAV, resL, resOne, go_sem, Nat.reduceAdd, Nat.reduceEqDiff, Nat.reduceLT, reduceIte, reduceCtorEq, Nat.reduceBEq, Int.reduceLT, Int.reduceToNat, Int.reducePow, Nat.reduceLeDiff, Int.reduceLE, Nat.reduceMul, Nat.reduceSub], ?_⟩
    simp only [avsOf_length]
    refine ⟨fun s => ∃ (i id nx' : Nat) (rest : List Value), i ≤ ps.length ∧ nx ≤ id ∧ id < nx' ∧ s = ⟨[(6, some (.rf (.row 49 9 0 (rowsTo ps i).length) id)), (25, some (.sn 46 (avsOf ps))), (26, some (.lit (.int .i64 ps.length))), (27, some (.lit (.int .i64 i)))],
        [(id, ((rowsTo ps i).flatten ++ rest).map .lit)], tp, nx'⟩, fun s => ps.length - cnt 27 s, ⟨_, weak_slots ?_, 0, nx, nx + 1, _, Nat.zero_le _, Nat.le_refl _, Nat.lt_succ_self _, rfl⟩, ?_⟩
    · simp only [slotsSub, go_sem, Nat.reduceAdd, Nat.reduceEqDiff, Nat.reduceLT, reduceIte, reduceCtorEq, Nat.reduceBEq, Int.reduceLT, Int.reduceToNat, Int.reducePow, Nat.reduceLeDiff, Int.reduceLE, Nat.reduceMul, Nat.reduceSub, rowsTo_zero, Int.natCast_zero]
    · rintro _ ⟨i, id, nx', rest, hi, hid, hid2, rfl⟩
      simp only [go_sem, Nat.reduceAdd, Nat.reduceEqDiff, Nat.reduceLT, reduceIte, reduceCtorEq, Nat.reduceBEq, Int.reduceLT, Int.reduceToNat, Int.reducePow, Nat.reduceLeDiff, Int.reduceLE, Nat.reduceMul, Nat.reduceSub]
      rcases Nat.lt_or_eq_of_le hi with hlt | heq
      · have hx := List.getElem?_eq_getElem hlt
        have hle := rowsTo_le ps (i := i + 1) (by omega)
        rw [hN, rowsTo_succ ps hx, List.length_append] at hle
        have hfl := rowsTo_flat hnine i
        have htk : (((rowsTo ps i).flatten ++ rest).map AV.lit).take ((rowsTo ps i).length * 9) = (rowsTo ps i).flatten.map AV.lit := by rw [← List.map_take, ← hfl, List.take_left]
        have hlen : (rowsTo ps i).length * 9 ≤ (((rowsTo ps i).flatten ++ rest).map AV.lit).length := by rw [List.length_map, List.length_append]; omega
        have hw3 : IntKind.i64.wrap ((i : Int) + 1) = ((i + 1 : Nat) : Int) := by rw [wrap_i64 _ (by omega) (by omega)]; omega
        simp only [dec_lt hlt, go_sem, Nat.reduceAdd, Nat.reduceEqDiff, Nat.reduceLT, reduceIte, reduceCtorEq, Nat.reduceBEq, Int.reduceLT, Int.reduceToNat, Int.reducePow, Nat.reduceLeDiff, Int.reduceLE, Nat.reduceMul, Nat.reduceSub, Int.natCast_nonneg, Int.toNat_natCast, avsOf_get ps hx, avsOf_length, rowApp, srcN, unOb_lits]
        rw [if_pos hlen]
        simp only [go_sem, Nat.reduceAdd, Nat.reduceEqDiff, Nat.reduceLT, reduceIte, reduceCtorEq, Nat.reduceBEq, Int.reduceLT, Int.reduceToNat, Int.reducePow, Nat.reduceLeDiff, Int.reduceLE, Nat.reduceMul, Nat.reduceSub, htk, hw3]
        refine ⟨by omega, _, weak_slots (sl1 := [(6, some (.rf (.row 49 9 0 (rowsTo ps (i + 1)).length) nx')), (25, some (.sn 46 (avsOf ps))), (26, some (.lit (.int .i64 ps.length))), (27, some (.lit (.int .i64 ((i + 1 : Nat) : Int))))]) ?_, ⟨i + 1, nx', nx' + 1, [], by omega, by omega, by omega, ?_⟩, ?_⟩
        · simp only [slotsSub, go_sem, Nat.reduceAdd, Nat.reduceEqDiff, Nat.reduceLT, reduceIte, reduceCtorEq, Nat.reduceBEq, Int.reduceLT, Int.reduceToNat, Int.reducePow, Nat.reduceLeDiff, Int.reduceLE, Nat.reduceMul, Nat.reduceSub, rowsTo_succ ps hx, List.length_append]
        · rw [rowsTo_succ ps hx]; simp
        · simp only [cnt, go_sem, Nat.reduceAdd, Nat.reduceEqDiff, Nat.reduceLT, reduceIte, reduceCtorEq, Nat.reduceBEq, Int.reduceLT, Int.reduceToNat, Int.reducePow, Nat.reduceLeDiff, Int.reduceLE, Nat.reduceMul, Nat.reduceSub, Int.toNat_natCast]; omega
      · subst heq
        simp only [Int.lt_irrefl, go_sem, Nat.reduceAdd, Nat.reduceEqDiff, Nat.reduceLT, reduceIte, reduceCtorEq, Nat.reduceBEq, Int.reduceLT, Int.reduceToNat, Int.reducePow, Nat.reduceLeDiff, Int.reduceLE, Nat.reduceMul, Nat.reduceSub]
        refine hQ _ id nx' rest hid hid2 ?_
        simp only [go_sem, Nat.reduceAdd, Nat.reduceEqDiff, Nat.reduceLT, reduceIte, reduceCtorEq, Nat.reduceBEq, Int.reduceLT, Int.reduceToNat, Int.reducePow, Nat.reduceLeDiff, Int.reduceLE, Nat.reduceMul, Nat.reduceSub, hN]

set_option maxRecDepth 10000 in
theorem concat_pure (ps : List (List (List Value) × Option Nat)) (hn : ps.length ≤ 1000) (h0 : 0 < (rowsTo ps ps.length).length) (hl : (rowsTo ps ps.length).length ≤ 1000000)
    (hnine : ∀ p ∈ ps, lenAll 9 p.1 = true ∧ oneV p.1 = true) : Pure Try.prog 75 [.sn 46 (avsOf ps)] [49] (.sl 49 (rowsTo ps ps.length) (some 0)) := by
  refine pure1W Try.func75 c75 n75 e75 r75 (by simp) ?_
  refine concat_go ps hn h0 hl hnine ?_
  intro slots id nx' rest _ _ hs
  refine ⟨_, weak_freeze (rest := rest.map .lit) (els := rowsTo ps ps.length) 2 hs ?_ rfl (rowsTo_nine hnine _).1 (rowsTo_nine hnine _).2, .inr rfl, nx', ?_, ?_⟩
  · rw [← List.map_append]
    simp only [boxAt, unOb_lits, go_sem, Nat.reduceAdd, Nat.reduceEqDiff, Nat.reduceLT, reduceIte, reduceCtorEq, Nat.reduceBEq, Int.reduceLT, Int.reduceToNat, Int.reducePow, Nat.reduceLeDiff, Int.reduceLE, Nat.reduceMul, Nat.reduceSub]
  · simp only [resAV, resL, resOne, go_sem, Nat.reduceAdd, Nat.reduceEqDiff, Nat.reduceLT, reduceIte, reduceCtorEq, Nat.reduceBEq, Int.reduceLT, Int.reduceToNat, Int.reducePow, Nat.reduceLeDiff, Int.reduceLE, Nat.reduceMul, Nat.reduceSub]
  · simp [go_sem, Nat.reduceAdd, Nat.reduceEqDiff, Nat.reduceLT, reduceIte, reduceCtorEq, Nat.reduceBEq, Int.reduceLT, Int.reduceToNat, Int.reducePow, Nat.reduceLeDiff, Int.reduceLE, Nat.reduceMul, Nat.reduceSub]
end Go.Proofs.Ytocaeclhmkojiaa
