/-
Decoding, and whether bytes are valid: what the program's functions hand back. Conditions: none.
-/
import Derived.Test.YtbnaepdeakcljaaUtf5
set_option linter.unusedSimpArgs false
set_option linter.unusedVariables false
set_option linter.unusedSectionVars false
namespace Go.Proofs.Ytbnaepdeakcljaa
open Go Go.Ab
def as26_0 : ACode :=
  (.reg [⟨(.some 3), (.alc 27 [(.int .i32 0), (.int .i64 0), (.int .i64 0)]), .none⟩, ⟨.none, (.st 3 (.t 3) (.t 6)), .none⟩])
def bd26_0 : ACode :=
  (.block 1 (.seq (.reg [⟨(.some 7), (.fa 0 (.t 3)), .none⟩, ⟨(.some 8), (.ld .none (.t 7)), .none⟩, ⟨(.some 9), (.bin .eql (.t 8) (.k (.int .i32 65533))), .none⟩, ⟨(.some 10), (.mv (.t 9)), .none⟩,
  ⟨(.some 11), (.fa 2 (.t 3)), (.some (10, true))⟩, ⟨(.some 12), (.ld .none (.t 11)), (.some (10, true))⟩, ⟨(.some 13), (.fa 1 (.t 3)), (.some (10, true))⟩, ⟨(.some 14), (.ld .none (.t 13)), (.some (10,
  true))⟩, ⟨(.some 15), (.bin .sub (.t 12) (.t 14)), (.some (10, true))⟩, ⟨(.some 16), (.bin .neq (.t 15) (.k (.int .i64 3))), (.some (10, true))⟩, ⟨(.some 17), (.mv (.t 16)), (.some (10, true))⟩,
  ⟨(.some 18), (.ld .none (.t 1)), (.some (17, false))⟩, ⟨(.some 19), (.fa 1 (.t 3)), (.some (17, false))⟩, ⟨(.some 20), (.ld .none (.t 19)), (.some (17, false))⟩, ⟨(.some 21), (.ia 5 (.t 18) (.t 20)),
  (.some (17, false))⟩, ⟨(.some 22), (.ld .none (.t 21)), (.some (17, false))⟩, ⟨(.some 23), (.bin .neq (.t 22) (.k (.int .u8 239))), (.some (17, false))⟩, ⟨(.some 24), (.pick (.t 17) (.k (.bool true))
  (.t 23)), (.some (10, true))⟩, ⟨(.some 25), (.mv (.t 24)), (.some (10, true))⟩, ⟨(.some 26), (.ld .none (.t 1)), (.some (25, false))⟩, ⟨(.some 27), (.fa 2 (.t 3)), (.some (25, false))⟩, ⟨(.some 28),
  (.ld .none (.t 27)), (.some (25, false))⟩, ⟨(.some 29), (.bin .sub (.t 28) (.k (.int .i64 1))), (.some (25, false))⟩, ⟨(.some 30), (.ia 5 (.t 26) (.t 29)), (.some (25, false))⟩, ⟨(.some 31), (.ld
  .none (.t 30)), (.some (25, false))⟩, ⟨(.some 32), (.bin .neq (.t 31) (.k (.int .u8 189))), (.some (25, false))⟩, ⟨(.some 33), (.pick (.t 25) (.k (.bool true)) (.t 32)), (.some (10, true))⟩, ⟨(.some
  34), (.pick (.t 10) (.t 33) (.k (.bool false))), .none⟩]) (.cond (.t 34) (.seq (.reg [⟨.none, (.st 1 (.t 2) (.k (.bool false))), .none⟩]) .ret) .skip)))
theorem was26_0 (F : Nat) (Q : Exit → State → Prop) (s : State) : awp Try.prog F as26_0 Q s = awp Try.prog F ((.reg [⟨(.some 3), (.alc 27 [(.int .i32 0), (.int .i64 0), (.int .i64 0)]), .none⟩, ⟨.none, (.st 3 (.t 3) (.t 6)), .none⟩])) Q s := rfl
attribute [go_sem] was26_0
theorem wbd26_0 (F : Nat) (Q : Exit → State → Prop) (s : State) : awp Try.prog F bd26_0 Q s = awp Try.prog F ((.block 1 (.seq (.reg [⟨(.some 7), (.fa 0 (.t 3)), .none⟩, ⟨(.some 8), (.ld .none (.t 7)), .none⟩, ⟨(.some 9), (.bin .eql (.t 8) (.k (.int .i32 65533))), .none⟩, ⟨(.some 10), (.mv (.t 9)), .none⟩,
  ⟨(.some 11), (.fa 2 (.t 3)), (.some (10, true))⟩, ⟨(.some 12), (.ld .none (.t 11)), (.some (10, true))⟩, ⟨(.some 13), (.fa 1 (.t 3)), (.some (10, true))⟩, ⟨(.some 14), (.ld .none (.t 13)), (.some (10,
  true))⟩, ⟨(.some 15), (.bin .sub (.t 12) (.t 14)), (.some (10, true))⟩, ⟨(.some 16), (.bin .neq (.t 15) (.k (.int .i64 3))), (.some (10, true))⟩, ⟨(.some 17), (.mv (.t 16)), (.some (10, true))⟩,
  ⟨(.some 18), (.ld .none (.t 1)), (.some (17, false))⟩, ⟨(.some 19), (.fa 1 (.t 3)), (.some (17, false))⟩, ⟨(.some 20), (.ld .none (.t 19)), (.some (17, false))⟩, ⟨(.some 21), (.ia 5 (.t 18) (.t 20)),
  (.some (17, false))⟩, ⟨(.some 22), (.ld .none (.t 21)), (.some (17, false))⟩, ⟨(.some 23), (.bin .neq (.t 22) (.k (.int .u8 239))), (.some (17, false))⟩, ⟨(.some 24), (.pick (.t 17) (.k (.bool true))
  (.t 23)), (.some (10, true))⟩, ⟨(.some 25), (.mv (.t 24)), (.some (10, true))⟩, ⟨(.some 26), (.ld .none (.t 1)), (.some (25, false))⟩, ⟨(.some 27), (.fa 2 (.t 3)), (.some (25, false))⟩, ⟨(.some 28),
  (.ld .none (.t 27)), (.some (25, false))⟩, ⟨(.some 29), (.bin .sub (.t 28) (.k (.int .i64 1))), (.some (25, false))⟩, ⟨(.some 30), (.ia 5 (.t 26) (.t 29)), (.some (25, false))⟩, ⟨(.some 31), (.ld
  .none (.t 30)), (.some (25, false))⟩, ⟨(.some 32), (.bin .neq (.t 31) (.k (.int .u8 189))), (.some (25, false))⟩, ⟨(.some 33), (.pick (.t 25) (.k (.bool true)) (.t 32)), (.some (10, true))⟩, ⟨(.some
  34), (.pick (.t 10) (.t 33) (.k (.bool false))), .none⟩]) (.cond (.t 34) (.seq (.reg [⟨.none, (.st 1 (.t 2) (.k (.bool false))), .none⟩]) .ret) .skip)))) Q s := rfl
attribute [go_sem] wbd26_0
def a26 : ACode :=
  (.seq (.reg [⟨(.some 1), (.box 22 (.t 0)), .none⟩, ⟨(.some 2), (.alc 4 [(.bool false)]), .none⟩]) (.seq (.seq (.reg [⟨(.some 4), (.ld .none (.t 1)), .none⟩, ⟨(.some 5), (.call (.f 35) [(.t 4)]),
  .none⟩]) (.block 0 (.rfn (.t 5) 35 [6] as26_0 bd26_0))) (.seq (.reg [⟨.none, (.st 1 (.t 2) (.k (.bool true))), .none⟩]) .ret)))
theorem c26 : Try.f26.body.bind (cCode Try.prog 35) = some a26 := by kernel_rfl
theorem r26 : Try.f26.results.toList = [(.cell 2 4)] := by kernel_rfl
theorem n26 : Try.f26.ntmps = 35 := by kernel_rfl
theorem e26 : Enters Try.prog 26 := enters_of Try.func26 (by kernel_rfl) (by kernel_rfl)
def a18 : ACode :=
  (.seq (.reg [⟨(.some 4), (.mv (.k (.bool false))), .none⟩]) (.seq (.reg [⟨(.some 5), (.mv (.t 0)), .none⟩, ⟨(.some 6), (.cvBS (.t 5)), .none⟩, ⟨(.some 7), (.mv (.t 1)), .none⟩, ⟨(.some 8), (.cvBS (.t
  7)), .none⟩, ⟨(.some 9), (.bin .eql (.t 6) (.t 8)), .none⟩, ⟨(.some 4), (.mv (.t 9)), .none⟩]) .ret))
theorem c18 : Try.f18.body.bind (cCode Try.prog 10) = some a18 := by kernel_rfl
theorem r18 : Try.f18.results.toList = [(.tmp 4)] := by kernel_rfl
theorem n18 : Try.f18.ntmps = 10 := by kernel_rfl
theorem e18 : Enters Try.prog 18 := enters_of Try.func18 (by kernel_rfl) (by kernel_rfl)
def a16 : ACode :=
  (.seq (.reg [⟨(.some 4), (.mv (.k (.bool false))), .none⟩]) (.seq (.seq (.reg [⟨(.some 6), (.mv (.t 0)), .none⟩, ⟨(.some 7), (.len (.t 6)), .none⟩, ⟨(.some 8), (.mv (.t 1)), .none⟩, ⟨(.some 9), (.len
  (.t 8)), .none⟩, ⟨(.some 10), (.bin .neq (.t 7) (.t 9)), .none⟩]) (.cond (.t 10) (.seq (.reg [⟨(.some 4), (.mv (.k (.bool false))), .none⟩]) .ret) .skip)) (.seq (.seq (.reg [⟨(.some 11), (.mv (.t 0)),
  .none⟩, ⟨(.some 12), (.len (.t 11)), .none⟩, ⟨(.some 13), (.mv (.k (.int .i64 0))), .none⟩]) (.block 0 (.loop (.seq (.reg [⟨(.some 14), (.bin .lss (.t 13) (.t 12)), .none⟩]) (.seq (.cond (.t 14) .skip
  (.exit 0)) (.seq (.block 1 (.seq (.reg [⟨(.some 15), (.mv (.t 13)), .none⟩, ⟨(.some 5), (.mv (.t 15)), .none⟩]) (.seq (.dreg [⟨(.some 16), (.mv (.t 0)), .none⟩, ⟨(.some 17), (.mv (.t 5)), .none⟩,
  ⟨(.some 18), (.ia 21 (.t 16) (.t 17)), .none⟩, ⟨(.some 19), (.ld .none (.t 18)), .none⟩, ⟨(.some 20), (.mv (.t 1)), .none⟩, ⟨(.some 21), (.mv (.t 5)), .none⟩, ⟨(.some 22), (.ia 21 (.t 20) (.t 21)),
  .none⟩, ⟨(.some 23), (.ld .none (.t 22)), .none⟩, ⟨(.some 24), (.bin .neq (.t 19) (.t 23)), .none⟩]) (.cond (.t 24) (.seq (.reg [⟨(.some 4), (.mv (.k (.bool false))), .none⟩]) .ret) .skip)))) (.reg
  [⟨(.some 25), (.bin .add (.t 13) (.k (.int .i64 1))), .none⟩, ⟨(.some 13), (.mv (.t 25)), .none⟩]))))))) (.seq (.reg [⟨(.some 4), (.mv (.k (.bool true))), .none⟩]) .ret))))
theorem c16 : Try.f16.body.bind (cCode Try.prog 26) = some a16 := by kernel_rfl
theorem r16 : Try.f16.results.toList = [(.tmp 4)] := by kernel_rfl
theorem n16 : Try.f16.ntmps = 26 := by kernel_rfl
theorem e16 : Enters Try.prog 16 := enters_of Try.func16 (by kernel_rfl) (by kernel_rfl)
def a22 : ACode :=
  (.seq (.reg [⟨(.some 4), (.mv (.k (.bool false))), .none⟩]) (.seq (.seq (.reg [⟨(.some 6), (.mv (.t 0)), .none⟩, ⟨(.some 7), (.len (.t 6)), .none⟩, ⟨(.some 8), (.mv (.t 1)), .none⟩, ⟨(.some 9), (.len
  (.t 8)), .none⟩, ⟨(.some 10), (.bin .neq (.t 7) (.t 9)), .none⟩]) (.cond (.t 10) (.seq (.reg [⟨(.some 4), (.mv (.k (.bool false))), .none⟩]) .ret) .skip)) (.seq (.seq (.reg [⟨(.some 11), (.mv (.t 0)),
  .none⟩, ⟨(.some 12), (.len (.t 11)), .none⟩, ⟨(.some 13), (.mv (.k (.int .i64 0))), .none⟩]) (.block 0 (.loop (.seq (.reg [⟨(.some 14), (.bin .lss (.t 13) (.t 12)), .none⟩]) (.seq (.cond (.t 14) .skip
  (.exit 0)) (.seq (.block 1 (.seq (.reg [⟨(.some 15), (.mv (.t 13)), .none⟩, ⟨(.some 5), (.mv (.t 15)), .none⟩]) (.seq (.dreg [⟨(.some 16), (.mv (.t 0)), .none⟩, ⟨(.some 17), (.mv (.t 5)), .none⟩,
  ⟨(.some 18), (.ia 27 (.t 16) (.t 17)), .none⟩, ⟨(.some 19), (.ld (.some 3) (.t 18)), .none⟩, ⟨(.some 20), (.mv (.t 1)), .none⟩, ⟨(.some 21), (.mv (.t 5)), .none⟩, ⟨(.some 22), (.ia 27 (.t 20) (.t
  21)), .none⟩, ⟨(.some 23), (.ld (.some 3) (.t 22)), .none⟩, ⟨(.some 24), (.eqg true [.int, .int, .int] (.t 19) (.t 23)), .none⟩]) (.cond (.t 24) (.seq (.reg [⟨(.some 4), (.mv (.k (.bool false))),
  .none⟩]) .ret) .skip)))) (.reg [⟨(.some 25), (.bin .add (.t 13) (.k (.int .i64 1))), .none⟩, ⟨(.some 13), (.mv (.t 25)), .none⟩]))))))) (.seq (.reg [⟨(.some 4), (.mv (.k (.bool true))), .none⟩])
  .ret))))
theorem c22 : Try.f22.body.bind (cCode Try.prog 26) = some a22 := by kernel_rfl
theorem r22 : Try.f22.results.toList = [(.tmp 4)] := by kernel_rfl
theorem n22 : Try.f22.ntmps = 26 := by kernel_rfl
theorem e22 : Enters Try.prog 22 := enters_of Try.func22 (by kernel_rfl) (by kernel_rfl)

def decL (b : List Nat) : List Int := (cut 0 b).map fun x => ((x.1 : Nat) : Int)

/-- The numbers of codes. -/
def numsOf (l : List (Nat × Nat × Nat × Bool)) : List Int := l.map fun x => ((x.1 : Nat) : Int)

theorem cells_bytes (l : List Nat) (h : ∀ n ∈ l, n ≤ 255) : bytesOf (octs l) = some (l.map fun n => UInt8.ofNat n) := by
  induction l with
  | nil => rfl
  | cons n l ih =>
    have h1 := ih fun m hm => h m (List.mem_cons_of_mem _ hm)
    simp only [octs] at h1
    simp [octs, bytesOf, h1]

theorem bytes_inj {a b : List Nat} (ha : ∀ n ∈ a, n ≤ 255) (hb : ∀ n ∈ b, n ≤ 255) : ((a.map fun n => UInt8.ofNat n) == (b.map fun n => UInt8.ofNat n)) = (a == b) := by
  induction a generalizing b with
  | nil => cases b <;> rfl
  | cons x a ih =>
    cases b with
    | nil => rfl
    | cons y b =>
      have hx := ha x (by simp)
      have hy := hb y (by simp)
      have h1 := ih (b := b) (fun n hn => ha n (by simp [hn])) (fun n hn => hb n (by simp [hn]))
      have h2 : (UInt8.ofNat x == UInt8.ofNat y) = (x == y) := by
        rw [Bool.eq_iff_iff]
        simp only [beq_iff_eq]
        constructor
        · intro h
          have := congrArg UInt8.toNat h
          simp only [UInt8.toNat_ofNat'] at this
          omega
        · intro h; rw [h]
      simp only [List.map_cons, List.cons_beq_cons, h1, h2]

set_option maxRecDepth 10000 in
theorem same_pure (a b : List Nat) (ha : ∀ n ∈ a, n ≤ 255) (hb : ∀ n ∈ b, n ≤ 255) : Pure Try.prog 18 [.sl 5 (octs a) none, .sl 5 (octs b) none] [] (.lit (.bool (a == b))) := by
  refine pure0 Try.func18 c18 n18 e18 r18 (by simp) rfl ?_
  simp only [a18, astart, argSlots, go_sem, Nat.reduceAdd, Nat.reduceEqDiff, Nat.reduceLT, reduceIte, reduceCtorEq, Nat.reduceBEq, Int.reduceLT, Int.reduceToNat, Int.reducePow, Nat.reduceLeDiff, Int.reduceLE, Nat.reduceMul, Nat.reduceSub, cells_bytes _ ha, cells_bytes _ hb, binStr]
  simp only [ByteArray.toList_mk, List.toList_toArray, bytes_inj ha hb, go_sem, Nat.reduceAdd, Nat.reduceEqDiff, Nat.reduceLT, reduceIte, reduceCtorEq, Nat.reduceBEq, Int.reduceLT, Int.reduceToNat, Int.reducePow, Nat.reduceLeDiff, Int.reduceLE, Nat.reduceMul, Nat.reduceSub]
  simp only [Done, resAV, resL, resOne, look_nil, look_cons, Nat.reduceEqDiff, if_true, if_false, reduceIte, ite_true, ite_false, Nat.zero_ne_one, Nat.one_ne_zero, reduceCtorEq, true_or, or_true, true_and, Option.some.injEq, AV.lit.injEq, Value.int.injEq, Value.bool.injEq]

set_option maxRecDepth 10000 in
theorem runesSame_pure (a b : List Int) (ha : a.length ≤ 4611686018427387904) : Pure Try.prog 16 [.sl 21 (runes a) none, .sl 21 (runes b) none] [] (.lit (.bool (a == b))) := by
  refine pure0 Try.func16 c16 n16 e16 r16 (by simp) rfl ?_
  simp only [a16, astart, argSlots, go_sem, Nat.reduceAdd, Nat.reduceEqDiff, Nat.reduceLT, reduceIte, reduceCtorEq, Nat.reduceBEq, Int.reduceLT, Int.reduceToNat, Int.reducePow, Nat.reduceLeDiff, Int.reduceLE, Nat.reduceMul, Nat.reduceSub]
  refine cGo_split (fun h => ?_) (fun h => ?_)
  · simp only [bne_iff_ne, ne_eq, Int.natCast_inj] at h
    simp only [go_sem, Nat.reduceAdd, Nat.reduceEqDiff, Nat.reduceLT, reduceIte, reduceCtorEq, Nat.reduceBEq, Int.reduceLT, Int.reduceToNat, Int.reducePow, Nat.reduceLeDiff, Int.reduceLE, Nat.reduceMul, Nat.reduceSub]
    simp only [Done, resAV, resL, resOne, look_nil, look_cons, Nat.reduceEqDiff, if_true, if_false, reduceIte, ite_true, ite_false, Nat.zero_ne_one, Nat.one_ne_zero, reduceCtorEq, true_or, or_true, true_and, Option.some.injEq, AV.lit.injEq, Value.int.injEq, Value.bool.injEq]
    rw [eq_comm, beq_eq_false_iff_ne]
    exact fun e => h (by rw [e])
  simp only [bne_eq_false_iff_eq, Int.natCast_inj] at h
  simp only [go_sem, Nat.reduceAdd, Nat.reduceEqDiff, Nat.reduceLT, reduceIte, reduceCtorEq, Nat.reduceBEq, Int.reduceLT, Int.reduceToNat, Int.reducePow, Nat.reduceLeDiff, Int.reduceLE, Nat.reduceMul, Nat.reduceSub]
  refine loop_to a.length (fun i => ⟨[(0, some (.sl 21 (runes a) none)), (1, some (.sl 21 (runes b) none)), (12, some (.lit (.int .i64 (a.length : Int)))), (13, some (.lit (.int .i64 (i : Int))))], [], [], 0⟩)
    (fun i => ∀ j : Nat, j < i → a[j]? = b[j]?) (weak_by [] List.nodup_nil rfl ?_ trivial trivial (by simp)) (fun j hj => by omega) ?_ ?_
  · simp only [go_sem, Nat.reduceAdd, Nat.reduceEqDiff, Nat.reduceLT, reduceIte, reduceCtorEq, Nat.reduceBEq, Int.reduceLT, Int.reduceToNat, Int.reducePow, Nat.reduceLeDiff, Int.reduceLE, Nat.reduceMul, Nat.reduceSub, slotsBy, boxesBy, tipsBy, rawAt, nm, AV.ren, AV.renL, AV.under, AV.underL, List.all_nil, List.all_cons, bne_self_eq_false, List.getD_cons_zero, List.getD_cons_succ, List.length_nil, List.length_cons, and_true, true_and, Int.natCast_zero]
  · intro i hi hp
    have hib : i < b.length := by omega
    simp only [dec_lt hi, runes_get a i hi, runes_get b i hib, go_sem, Nat.reduceAdd, Nat.reduceEqDiff, Nat.reduceLT, reduceIte, reduceCtorEq, Nat.reduceBEq, Int.reduceLT, Int.reduceToNat, Int.reducePow, Nat.reduceLeDiff, Int.reduceLE, Nat.reduceMul, Nat.reduceSub]
    refine cGo_split (fun h2 => ?_) (fun h2 => ?_)
    · simp only [bne_iff_ne, ne_eq] at h2
      simp only [go_sem, Nat.reduceAdd, Nat.reduceEqDiff, Nat.reduceLT, reduceIte, reduceCtorEq, Nat.reduceBEq, Int.reduceLT, Int.reduceToNat, Int.reducePow, Nat.reduceLeDiff, Int.reduceLE, Nat.reduceMul, Nat.reduceSub]
      simp only [Done, resAV, resL, resOne, look_nil, look_cons, Nat.reduceEqDiff, if_true, if_false, reduceIte, ite_true, ite_false, Nat.zero_ne_one, Nat.one_ne_zero, reduceCtorEq, true_or, or_true, true_and, Option.some.injEq, AV.lit.injEq, Value.int.injEq, Value.bool.injEq]
      rw [eq_comm, beq_eq_false_iff_ne]
      intro e
      subst e
      exact h2 rfl
    · simp only [bne_eq_false_iff_eq] at h2
      simp only [go_sem, Nat.reduceAdd, Nat.reduceEqDiff, Nat.reduceLT, reduceIte, reduceCtorEq, Nat.reduceBEq, Int.reduceLT, Int.reduceToNat, Int.reducePow, Nat.reduceLeDiff, Int.reduceLE, Nat.reduceMul, Nat.reduceSub]
      simp (disch := omega) only [wrap_i64]
      refine ⟨weak_by [] List.nodup_nil rfl ?_ trivial trivial (by simp), ?_⟩
      · simp only [go_sem, Nat.reduceAdd, Nat.reduceEqDiff, Nat.reduceLT, reduceIte, reduceCtorEq, Nat.reduceBEq, Int.reduceLT, Int.reduceToNat, Int.reducePow, Nat.reduceLeDiff, Int.reduceLE, Nat.reduceMul, Nat.reduceSub, slotsBy, boxesBy, tipsBy, rawAt, nm, AV.ren, AV.renL, AV.under, AV.underL, List.all_nil, List.all_cons, bne_self_eq_false, List.getD_cons_zero, List.getD_cons_succ, List.length_nil, List.length_cons, and_true, true_and, Int.natCast_add, Int.natCast_one]
      · intro j hj
        rcases Nat.lt_succ_iff_lt_or_eq.1 hj with hj | hj
        · exact hp j hj
        · subst hj; rw [List.getElem?_eq_getElem hi, List.getElem?_eq_getElem hib, h2]
  · intro hp
    simp only [dec_irr, go_sem, Nat.reduceAdd, Nat.reduceEqDiff, Nat.reduceLT, reduceIte, reduceCtorEq, Nat.reduceBEq, Int.reduceLT, Int.reduceToNat, Int.reducePow, Nat.reduceLeDiff, Int.reduceLE, Nat.reduceMul, Nat.reduceSub]
    simp only [Done, resAV, resL, resOne, look_nil, look_cons, Nat.reduceEqDiff, if_true, if_false, reduceIte, ite_true, ite_false, Nat.zero_ne_one, Nat.one_ne_zero, reduceCtorEq, true_or, or_true, true_and, Option.some.injEq, AV.lit.injEq, Value.int.injEq, Value.bool.injEq]
    rw [eq_comm, beq_iff_eq]
    refine List.ext_getElem? fun j => ?_
    rcases Nat.lt_or_ge j a.length with hj | hj
    · exact hp j hj
    · rw [List.getElem?_eq_none hj, List.getElem?_eq_none (by omega)]

def trip (x : Nat × Nat × Nat × Bool) : Nat × Nat × Nat := (x.1, x.2.1, x.2.2.1)
def codesT (l : List (Nat × Nat × Nat)) : List (List Value) := l.map fun x => [.int .i32 ((x.1 : Nat) : Int), .int .i64 ((x.2.1 : Nat) : Int), .int .i64 ((x.2.2 : Nat) : Int)]
theorem codesC_T (l : List (Nat × Nat × Nat × Bool)) : codesC l = codesT (l.map trip) := by simp only [codesC, codesT, List.map_map]; rfl
theorem codesT_length (l : List (Nat × Nat × Nat)) : (codesT l).length = l.length := by simp [codesT]
theorem codesT_get (l : List (Nat × Nat × Nat)) (i : Nat) (h : i < l.length) : (codesT l)[i]? = some [.int .i32 ((l[i].1 : Nat) : Int), .int .i64 ((l[i].2.1 : Nat) : Int), .int .i64 ((l[i].2.2 : Nat) : Int)] := by simp [codesT, h]
theorem beq_cast (a b : Nat) : ((a : Int) == (b : Int)) = (a == b) := by rw [Bool.eq_iff_iff]; simp only [beq_iff_eq]; omega

set_option maxRecDepth 10000 in
theorem sameCodes_pure (a b : List (Nat × Nat × Nat)) (ha : a.length ≤ 4611686018427387904) : Pure Try.prog 22 [.sl 27 (codesT a) none, .sl 27 (codesT b) none] [] (.lit (.bool (a == b))) := by
  refine pure0 Try.func22 c22 n22 e22 r22 (by simp) rfl ?_
  simp only [a22, astart, argSlots, go_sem, Nat.reduceAdd, Nat.reduceEqDiff, Nat.reduceLT, reduceIte, reduceCtorEq, Nat.reduceBEq, Int.reduceLT, Int.reduceToNat, Int.reducePow, Nat.reduceLeDiff, Int.reduceLE, Nat.reduceMul, Nat.reduceSub, codesT_length]
  refine cGo_split (fun h => ?_) (fun h => ?_)
  · simp only [bne_iff_ne, ne_eq, Int.natCast_inj] at h
    simp only [go_sem, Nat.reduceAdd, Nat.reduceEqDiff, Nat.reduceLT, reduceIte, reduceCtorEq, Nat.reduceBEq, Int.reduceLT, Int.reduceToNat, Int.reducePow, Nat.reduceLeDiff, Int.reduceLE, Nat.reduceMul, Nat.reduceSub]
    simp only [Done, resAV, resL, resOne, look_nil, look_cons, Nat.reduceEqDiff, if_true, if_false, reduceIte, ite_true, ite_false, Nat.zero_ne_one, Nat.one_ne_zero, reduceCtorEq, true_or, or_true, true_and, Option.some.injEq, AV.lit.injEq, Value.int.injEq, Value.bool.injEq]
    rw [eq_comm, beq_eq_false_iff_ne]
    exact fun e => h (by rw [e])
  simp only [bne_eq_false_iff_eq, Int.natCast_inj] at h
  simp only [go_sem, Nat.reduceAdd, Nat.reduceEqDiff, Nat.reduceLT, reduceIte, reduceCtorEq, Nat.reduceBEq, Int.reduceLT, Int.reduceToNat, Int.reducePow, Nat.reduceLeDiff, Int.reduceLE, Nat.reduceMul, Nat.reduceSub, codesT_length]
  refine loop_to a.length (fun i => ⟨[(0, some (.sl 27 (codesT a) none)), (1, some (.sl 27 (codesT b) none)), (12, some (.lit (.int .i64 (a.length : Int)))), (13, some (.lit (.int .i64 (i : Int))))], [], [], 0⟩)
    (fun i => ∀ j : Nat, j < i → a[j]? = b[j]?) (weak_by [] List.nodup_nil rfl ?_ trivial trivial (by simp)) (fun j hj => by omega) ?_ ?_
  · simp only [go_sem, Nat.reduceAdd, Nat.reduceEqDiff, Nat.reduceLT, reduceIte, reduceCtorEq, Nat.reduceBEq, Int.reduceLT, Int.reduceToNat, Int.reducePow, Nat.reduceLeDiff, Int.reduceLE, Nat.reduceMul, Nat.reduceSub, slotsBy, boxesBy, tipsBy, rawAt, nm, AV.ren, AV.renL, AV.under, AV.underL, List.all_nil, List.all_cons, bne_self_eq_false, List.getD_cons_zero, List.getD_cons_succ, List.length_nil, List.length_cons, and_true, true_and, Int.natCast_zero]
  · intro i hi hp
    have hib : i < b.length := by omega
    simp only [dec_lt hi, codesT_get a i hi, codesT_get b i hib, go_sem, Nat.reduceAdd, Nat.reduceEqDiff, Nat.reduceLT, reduceIte, reduceCtorEq, Nat.reduceBEq, Int.reduceLT, Int.reduceToNat, Int.reducePow, Nat.reduceLeDiff, Int.reduceLE, Nat.reduceMul, Nat.reduceSub, beq_cast]
    have he : (a[i].1 == b[i].1 && (a[i].2.1 == b[i].2.1 && a[i].2.2 == b[i].2.2)) = (a[i] == b[i]) := rfl
    simp only [he]
    refine cGo_split (fun h2 => ?_) (fun h2 => ?_)
    · simp only [Bool.not_eq_true', beq_eq_false_iff_ne, ne_eq] at h2
      simp only [go_sem, Nat.reduceAdd, Nat.reduceEqDiff, Nat.reduceLT, reduceIte, reduceCtorEq, Nat.reduceBEq, Int.reduceLT, Int.reduceToNat, Int.reducePow, Nat.reduceLeDiff, Int.reduceLE, Nat.reduceMul, Nat.reduceSub]
      simp only [Done, resAV, resL, resOne, look_nil, look_cons, Nat.reduceEqDiff, if_true, if_false, reduceIte, ite_true, ite_false, Nat.zero_ne_one, Nat.one_ne_zero, reduceCtorEq, true_or, or_true, true_and, Option.some.injEq, AV.lit.injEq, Value.int.injEq, Value.bool.injEq]
      rw [eq_comm, beq_eq_false_iff_ne]
      intro e
      subst e
      exact h2 rfl
    · simp only [Bool.not_eq_false', beq_iff_eq] at h2
      simp only [go_sem, Nat.reduceAdd, Nat.reduceEqDiff, Nat.reduceLT, reduceIte, reduceCtorEq, Nat.reduceBEq, Int.reduceLT, Int.reduceToNat, Int.reducePow, Nat.reduceLeDiff, Int.reduceLE, Nat.reduceMul, Nat.reduceSub]
      simp (disch := omega) only [wrap_i64]
      refine ⟨weak_by [] List.nodup_nil rfl ?_ trivial trivial (by simp), ?_⟩
      · simp only [go_sem, Nat.reduceAdd, Nat.reduceEqDiff, Nat.reduceLT, reduceIte, reduceCtorEq, Nat.reduceBEq, Int.reduceLT, Int.reduceToNat, Int.reducePow, Nat.reduceLeDiff, Int.reduceLE, Nat.reduceMul, Nat.reduceSub, slotsBy, boxesBy, tipsBy, rawAt, nm, AV.ren, AV.renL, AV.under, AV.underL, List.all_nil, List.all_cons, bne_self_eq_false, List.getD_cons_zero, List.getD_cons_succ, List.length_nil, List.length_cons, and_true, true_and, Int.natCast_add, Int.natCast_one]
      · intro j hj
        rcases Nat.lt_succ_iff_lt_or_eq.1 hj with hj | hj
        · exact hp j hj
        · subst hj; rw [List.getElem?_eq_getElem hi, List.getElem?_eq_getElem hib, h2]
  · intro hp
    simp only [dec_irr, go_sem, Nat.reduceAdd, Nat.reduceEqDiff, Nat.reduceLT, reduceIte, reduceCtorEq, Nat.reduceBEq, Int.reduceLT, Int.reduceToNat, Int.reducePow, Nat.reduceLeDiff, Int.reduceLE, Nat.reduceMul, Nat.reduceSub]
    simp only [Done, resAV, resL, resOne, look_nil, look_cons, Nat.reduceEqDiff, if_true, if_false, reduceIte, ite_true, ite_false, Nat.zero_ne_one, Nat.one_ne_zero, reduceCtorEq, true_or, or_true, true_and, Option.some.injEq, AV.lit.injEq, Value.int.injEq, Value.bool.injEq]
    rw [eq_comm, beq_iff_eq]
    refine List.ext_getElem? fun j => ?_
    rcases Nat.lt_or_ge j a.length with hj | hj
    · exact hp j hj
    · rw [List.getElem?_eq_none hj, List.getElem?_eq_none (by omega)]

set_option maxRecDepth 10000 in
theorem decode_pure (b : List Nat) (hb : ∀ n ∈ b, n ≤ 255) (hl : b.length ≤ 1099511627776) : Pure Try.prog 15 [.sl 5 (octs b) none] [21] (.sl 21 (runes (decL b)) (some 0)) := by
  refine pure1 Try.func15 c15 n15 e15 r15 (by simp) ?_
  simp only [a15, astart, argSlots, go_sem, Nat.reduceAdd, Nat.reduceEqDiff, Nat.reduceLT, reduceIte, reduceCtorEq, Nat.reduceBEq, Int.reduceLT, Int.reduceToNat, Int.reducePow, Nat.reduceLeDiff, Int.reduceLE, Nat.reduceMul, Nat.reduceSub, allOne, AV.one, Value.oneCell']
  refine callGo_walk Try.func35 c35 n35 e35 r35 (by simp) ?_
  simp only [a35, astart, argSlots, go_sem, Nat.reduceAdd, Nat.reduceEqDiff, Nat.reduceLT, reduceIte, reduceCtorEq, Nat.reduceBEq, Int.reduceLT, Int.reduceToNat, Int.reducePow, Nat.reduceLeDiff, Int.reduceLE, Nat.reduceMul, Nat.reduceSub, allOne, AV.one]
  refine ⟨by simp, _, rfl, ?_⟩
  refine rfnGo_call [3] _ rfl ?_
  refine callOK_walk Try.func58 c58 n58 e58 r58 (by simp) ?_
  simp only [a58, astart, argSlots, go_sem, Nat.reduceAdd, Nat.reduceEqDiff, Nat.reduceLT, reduceIte, reduceCtorEq, Nat.reduceBEq, Int.reduceLT, Int.reduceToNat, Int.reducePow, Nat.reduceLeDiff, Int.reduceLE, Nat.reduceMul, Nat.reduceSub]
  refine ⟨fun s => ∃ (i : Nat) (acc : List (Nat × Nat × Nat × Bool)), i ≤ b.length ∧ acc.length ≤ i ∧ cut 0 b = acc ++ cut i (b.drop i) ∧
      s = ⟨[(0, some (.rf .yield 2)), (1, some (.bp 1 0)), (3, some (.lit (.int .i64 (i : Int))))],
        [(2, [.ob (.loop ⟨14, [3], [7], as15_0, bd15_0, .ready, none⟩) [.bp 0 0]]), (1, [.sl 5 (octs b) none]), (0, [.sl 21 (runes (numsOf acc)) (some 3)])], [(3, 21)], 4⟩,
    fun s => b.length - cnt 3 s, ⟨_, (weak_nil_box 0 0 21 (cells := [.lit (.slice none 0 0)]) (by simp only [go_sem, Nat.reduceAdd, Nat.reduceEqDiff, Nat.reduceLT, reduceIte, reduceCtorEq, Nat.reduceBEq, Int.reduceLT, Int.reduceToNat, Int.reducePow, Nat.reduceLeDiff, Int.reduceLE, Nat.reduceMul, Nat.reduceSub]) rfl).trans (weak_by [0, 1, 2, 3] (by simp) rfl ?_ ?_ ?_ ?_), 0, [], Nat.zero_le _, Nat.zero_le _, rfl, rfl⟩, ?_⟩
  · simp only [go_sem, Nat.reduceAdd, Nat.reduceEqDiff, Nat.reduceLT, reduceIte, reduceCtorEq, Nat.reduceBEq, Int.reduceLT, Int.reduceToNat, Int.reducePow, Nat.reduceLeDiff, Int.reduceLE, Nat.reduceMul, Nat.reduceSub, slotsBy, boxesBy, tipsBy, rawAt, nm, AV.ren, AV.renL, AV.under, AV.underL, List.all_nil, List.all_cons, bne_self_eq_false, List.getD_cons_zero, List.getD_cons_succ, List.length_nil, List.length_cons, and_true, true_and, Int.natCast_zero]
  · simp only [go_sem, Nat.reduceAdd, Nat.reduceEqDiff, Nat.reduceLT, reduceIte, reduceCtorEq, Nat.reduceBEq, Int.reduceLT, Int.reduceToNat, Int.reducePow, Nat.reduceLeDiff, Int.reduceLE, Nat.reduceMul, Nat.reduceSub, slotsBy, boxesBy, tipsBy, rawAt, nm, AV.ren, AV.renL, AV.under, AV.underL, List.all_nil, List.all_cons, bne_self_eq_false, List.getD_cons_zero, List.getD_cons_succ, List.length_nil, List.length_cons, and_true, true_and, runes, numsOf, List.map_nil]
    simp
  · simp only [go_sem, Nat.reduceAdd, Nat.reduceEqDiff, Nat.reduceLT, reduceIte, reduceCtorEq, Nat.reduceBEq, Int.reduceLT, Int.reduceToNat, Int.reducePow, Nat.reduceLeDiff, Int.reduceLE, Nat.reduceMul, Nat.reduceSub, slotsBy, boxesBy, tipsBy, rawAt, nm, AV.ren, AV.renL, AV.under, AV.underL, List.all_nil, List.all_cons, bne_self_eq_false, List.getD_cons_zero, List.getD_cons_succ, List.length_nil, List.length_cons, and_true, true_and, beq_self_eq_true]
  · refine ⟨by simp, fun i hi => ?_⟩
    match i, hi with
    | 0, _ => rfl
    | 1, _ => rfl
    | 2, _ => rfl
  · rintro _ ⟨i, acc, hi, hacc, hcut, rfl⟩
    simp only [go_sem, Nat.reduceAdd, Nat.reduceEqDiff, Nat.reduceLT, reduceIte, reduceCtorEq, Nat.reduceBEq, Int.reduceLT, Int.reduceToNat, Int.reducePow, Nat.reduceLeDiff, Int.reduceLE, Nat.reduceMul, Nat.reduceSub]
    rcases Nat.lt_or_eq_of_le hi with hlt | heq
    · simp only [dec_lt hlt, slc_drop hi, go_sem, Nat.reduceAdd, Nat.reduceEqDiff, Nat.reduceLT, reduceIte, reduceCtorEq, Nat.reduceBEq, Int.reduceLT, Int.reduceToNat, Int.reducePow, Nat.reduceLeDiff, Int.reduceLE, Nat.reduceMul, Nat.reduceSub]
      rw [List.take_of_length_le (by simp [octs]), octs_drop]
      refine callGo_pure (next_drop hb (by omega) hlt) (by rfl) ?_
      have hk := nx_drop hlt
      have hc := cut_drop hlt
      generalize nx (b.drop i) = z at hk hc ⊢
      have hw : IntKind.i64.wrap ((i : Int) + (z.2.1 : Int)) = ((i + z.2.1 : Nat) : Int) := by rw [wrap_i64 _ (by omega) (by omega)]; omega
      simp only [hw, go_sem, Nat.reduceAdd, Nat.reduceEqDiff, Nat.reduceLT, reduceIte, reduceCtorEq, Nat.reduceBEq, Int.reduceLT, Int.reduceToNat, Int.reducePow, Nat.reduceLeDiff, Int.reduceLE, Nat.reduceMul, Nat.reduceSub, allOne, AV.one, Value.oneCell']
      refine callGo_yield (i := ⟨14, [3], [7], as15_0, bd15_0, .ready, none⟩) (cells := [.bp 0 0]) (by simp only [go_sem, Nat.reduceAdd, Nat.reduceEqDiff, Nat.reduceLT, reduceIte, reduceCtorEq, Nat.reduceBEq, Int.reduceLT, Int.reduceToNat, Int.reducePow, Nat.reduceLeDiff, Int.reduceLE, Nat.reduceMul, Nat.reduceSub]) rfl rfl ?_
      simp only [go_sem, Nat.reduceAdd, Nat.reduceEqDiff, Nat.reduceLT, reduceIte, reduceCtorEq, Nat.reduceBEq, Int.reduceLT, Int.reduceToNat, Int.reducePow, Nat.reduceLeDiff, Int.reduceLE, Nat.reduceMul, Nat.reduceSub, allOne, AV.one, Value.oneCell', Int.natCast_zero, Nat.le_refl]
      rw [hc] at hcut
      refine ⟨by simp only [numsOf, List.length_map]; omega, _, weak_by [0, 1, 2, 6] (by simp) rfl ?_ ?_ ?_ ?_, ⟨i + z.2.1, acc ++ [(z.1, i, i + z.2.1, z.2.2)], hk.2.1, by simp only [List.length_append, List.length_cons, List.length_nil]; omega, by rw [hcut]; simp, rfl⟩, ?_⟩
      · simp only [go_sem, Nat.reduceAdd, Nat.reduceEqDiff, Nat.reduceLT, reduceIte, reduceCtorEq, Nat.reduceBEq, Int.reduceLT, Int.reduceToNat, Int.reducePow, Nat.reduceLeDiff, Int.reduceLE, Nat.reduceMul, Nat.reduceSub, slotsBy, boxesBy, tipsBy, rawAt, nm, AV.ren, AV.renL, AV.under, AV.underL, List.all_nil, List.all_cons, bne_self_eq_false, List.getD_cons_zero, List.getD_cons_succ, List.length_nil, List.length_cons, and_true, true_and, hw]
      · simp only [go_sem, Nat.reduceAdd, Nat.reduceEqDiff, Nat.reduceLT, reduceIte, reduceCtorEq, Nat.reduceBEq, Int.reduceLT, Int.reduceToNat, Int.reducePow, Nat.reduceLeDiff, Int.reduceLE, Nat.reduceMul, Nat.reduceSub, slotsBy, boxesBy, tipsBy, rawAt, nm, AV.ren, AV.renL, AV.under, AV.underL, List.all_nil, List.all_cons, bne_self_eq_false, List.getD_cons_zero, List.getD_cons_succ, List.length_nil, List.length_cons, and_true, true_and, runes, numsOf, List.map_append]
        simp
      · simp only [go_sem, Nat.reduceAdd, Nat.reduceEqDiff, Nat.reduceLT, reduceIte, reduceCtorEq, Nat.reduceBEq, Int.reduceLT, Int.reduceToNat, Int.reducePow, Nat.reduceLeDiff, Int.reduceLE, Nat.reduceMul, Nat.reduceSub, slotsBy, boxesBy, tipsBy, rawAt, nm, AV.ren, AV.renL, AV.under, AV.underL, List.all_nil, List.all_cons, bne_self_eq_false, List.getD_cons_zero, List.getD_cons_succ, List.length_nil, List.length_cons, and_true, true_and, beq_self_eq_true]
      · refine ⟨by simp, fun i hi => ?_⟩
        match i, hi with
        | 0, _ => rfl
        | 1, _ => rfl
        | 2, _ => rfl
      · simp only [cnt, go_sem, Nat.reduceAdd, Nat.reduceEqDiff, Nat.reduceLT, reduceIte, reduceCtorEq, Nat.reduceBEq, Int.reduceLT, Int.reduceToNat, Int.reducePow, Nat.reduceLeDiff, Int.reduceLE, Nat.reduceMul, Nat.reduceSub, Int.toNat_natCast]; omega
    · subst heq
      rw [List.drop_length, cut_nil, List.append_nil] at hcut
      simp only [dec_irr, go_sem, Nat.reduceAdd, Nat.reduceEqDiff, Nat.reduceLT, reduceIte, reduceCtorEq, Nat.reduceBEq, Int.reduceLT, Int.reduceToNat, Int.reducePow, Nat.reduceLeDiff, Int.reduceLE, Nat.reduceMul, Nat.reduceSub]
      refine ⟨by simp, _, rfl, ?_⟩
      simp only [rfnPost, go_sem, Nat.reduceAdd, Nat.reduceEqDiff, Nat.reduceLT, reduceIte, reduceCtorEq, Nat.reduceBEq, Int.reduceLT, Int.reduceToNat, Int.reducePow, Nat.reduceLeDiff, Int.reduceLE, Nat.reduceMul, Nat.reduceSub, decL, hcut]
      exact ⟨.inr rfl, 3, by simp only [resAV, resL, resOne, go_sem, Nat.reduceAdd, Nat.reduceEqDiff, Nat.reduceLT, reduceIte, reduceCtorEq, Nat.reduceBEq, Int.reduceLT, Int.reduceToNat, Int.reducePow, Nat.reduceLeDiff, Int.reduceLE, Nat.reduceMul, Nat.reduceSub]; rfl, by simp [go_sem, Nat.reduceAdd, Nat.reduceEqDiff, Nat.reduceLT, reduceIte, reduceCtorEq, Nat.reduceBEq, Int.reduceLT, Int.reduceToNat, Int.reducePow, Nat.reduceLeDiff, Int.reduceLE, Nat.reduceMul, Nat.reduceSub]⟩

def validL (b : List Nat) : Bool := (cut 0 b).all fun x => x.2.2.2

theorem bool_info : (Try.prog.info? 4).map (·.size) = some 1 := by kernel_rfl
theorem bool_agg : aggB Try.prog 4 = false := by kernel_rfl
theorem bool_und : (Try.prog.underlying 4).isSome = true := by kernel_rfl

set_option maxRecDepth 10000 in
theorem valid_pure (b : List Nat) (hb : ∀ n ∈ b, n ≤ 255) (hl : b.length ≤ 1099511627776) : Pure Try.prog 26 [.sl 5 (octs b) none] [] (.lit (.bool (validL b))) := by
  refine pure0 Try.func26 c26 n26 e26 r26 (by simp) rfl ?_
  simp only [a26, astart, argSlots, go_sem, Nat.reduceAdd, Nat.reduceEqDiff, Nat.reduceLT, reduceIte, reduceCtorEq, Nat.reduceBEq, Int.reduceLT, Int.reduceToNat, Int.reducePow, Nat.reduceLeDiff, Int.reduceLE, Nat.reduceMul, Nat.reduceSub, allOne, AV.one, Value.oneCell']
  refine callGo_walk Try.func35 c35 n35 e35 r35 (by simp) ?_
  simp only [a35, astart, argSlots, go_sem, Nat.reduceAdd, Nat.reduceEqDiff, Nat.reduceLT, reduceIte, reduceCtorEq, Nat.reduceBEq, Int.reduceLT, Int.reduceToNat, Int.reducePow, Nat.reduceLeDiff, Int.reduceLE, Nat.reduceMul, Nat.reduceSub, allOne, AV.one]
  refine ⟨by simp, _, rfl, ?_⟩
  refine rfnGo_call [1, 2] _ rfl ?_
  refine callOK_walk Try.func58 c58 n58 e58 r58 (by simp) ?_
  simp only [a58, astart, argSlots, go_sem, Nat.reduceAdd, Nat.reduceEqDiff, Nat.reduceLT, reduceIte, reduceCtorEq, Nat.reduceBEq, Int.reduceLT, Int.reduceToNat, Int.reducePow, Nat.reduceLeDiff, Int.reduceLE, Nat.reduceMul, Nat.reduceSub]
  refine ⟨fun s => ∃ (i : Nat), i ≤ b.length ∧ validL b = (cut i (b.drop i)).all (fun x => x.2.2.2) ∧
      s = ⟨[(0, some (.rf .yield 3)), (1, some (.bp 2 0)), (3, some (.lit (.int .i64 (i : Int))))],
        [(3, [.ob (.loop ⟨35, [1, 2], [6], as26_0, bd26_0, .ready, none⟩) [.bp 0 0, .bp 1 0]]), (2, [.sl 5 (octs b) none]), (1, [.lit (.bool false)]), (0, [.sl 5 (octs b) none])], [], 4⟩,
    fun s => b.length - cnt 3 s, ⟨_, weak_by (tp1 := []) [0, 1, 2, 3] (by simp) rfl ?_ ?_ trivial ?_, 0, Nat.zero_le _, rfl, rfl⟩, ?_⟩
  · simp only [go_sem, Nat.reduceAdd, Nat.reduceEqDiff, Nat.reduceLT, reduceIte, reduceCtorEq, Nat.reduceBEq, Int.reduceLT, Int.reduceToNat, Int.reducePow, Nat.reduceLeDiff, Int.reduceLE, Nat.reduceMul, Nat.reduceSub, slotsBy, boxesBy, tipsBy, rawAt, nm, AV.ren, AV.renL, AV.under, AV.underL, List.all_nil, List.all_cons, bne_self_eq_false, List.getD_cons_zero, List.getD_cons_succ, List.length_nil, List.length_cons, and_true, true_and, Int.natCast_zero]
  · simp only [go_sem, Nat.reduceAdd, Nat.reduceEqDiff, Nat.reduceLT, reduceIte, reduceCtorEq, Nat.reduceBEq, Int.reduceLT, Int.reduceToNat, Int.reducePow, Nat.reduceLeDiff, Int.reduceLE, Nat.reduceMul, Nat.reduceSub, slotsBy, boxesBy, tipsBy, rawAt, nm, AV.ren, AV.renL, AV.under, AV.underL, List.all_nil, List.all_cons, bne_self_eq_false, List.getD_cons_zero, List.getD_cons_succ, List.length_nil, List.length_cons, and_true, true_and]
    simp
  · refine ⟨by simp, fun i hi => ?_⟩
    match i, hi with
    | 0, _ => rfl
    | 1, _ => rfl
    | 2, _ => rfl
    | 3, _ => rfl
  · rintro _ ⟨i, hi, hv, rfl⟩
    simp only [go_sem, Nat.reduceAdd, Nat.reduceEqDiff, Nat.reduceLT, reduceIte, reduceCtorEq, Nat.reduceBEq, Int.reduceLT, Int.reduceToNat, Int.reducePow, Nat.reduceLeDiff, Int.reduceLE, Nat.reduceMul, Nat.reduceSub]
    rcases Nat.lt_or_eq_of_le hi with hlt | heq
    · simp only [dec_lt hlt, slc_drop hi, go_sem, Nat.reduceAdd, Nat.reduceEqDiff, Nat.reduceLT, reduceIte, reduceCtorEq, Nat.reduceBEq, Int.reduceLT, Int.reduceToNat, Int.reducePow, Nat.reduceLeDiff, Int.reduceLE, Nat.reduceMul, Nat.reduceSub]
      rw [List.take_of_length_le (by simp [octs]), octs_drop]
      refine callGo_pure (next_drop hb (by omega) hlt) (by rfl) ?_
      have hk := nx_drop hlt
      have hc := cut_drop hlt
      have hok := fun r k (h : nx (b.drop i) = (r, k, true)) => nx_ok (fun n hn => hb n (List.mem_of_mem_drop hn)) h
      have hfl := nx_fail (c := b[i]) (t := b.drop (i + 1))
      rw [← List.drop_eq_getElem_cons hlt] at hfl
      generalize nx (b.drop i) = z at hk hc hok hfl ⊢
      have hok1 : z.2.2 = true → z.1 = 65533 → z.2.1 = 3 ∧ b[i] = 239 ∧ ∀ h : i + 2 < b.length, b[i + 2] = 189 := by
        intro h1 h2
        obtain ⟨z1, z2, z3⟩ := z
        simp only at h1 h2
        subst h1; subst h2
        obtain ⟨_, h3, h4⟩ := hok _ _ rfl
        have e : encN 65533 = [239, 191, 189] := rfl
        rw [e] at h3 h4
        simp only [List.length_cons, List.length_nil] at h4
        subst h4
        refine ⟨rfl, ?_, fun h => ?_⟩
        · have := congrArg (fun l => l[0]?) h3
          simpa [List.getElem?_take, List.getElem?_drop, hlt] using this
        · have := congrArg (fun l => l[2]?) h3
          simpa [List.getElem?_take, List.getElem?_drop, h] using this
      clear hok
      have hw : IntKind.i64.wrap ((i : Int) + (z.2.1 : Int)) = ((i + z.2.1 : Nat) : Int) := by rw [wrap_i64 _ (by omega) (by omega)]; omega
      simp only [hw, go_sem, Nat.reduceAdd, Nat.reduceEqDiff, Nat.reduceLT, reduceIte, reduceCtorEq, Nat.reduceBEq, Int.reduceLT, Int.reduceToNat, Int.reducePow, Nat.reduceLeDiff, Int.reduceLE, Nat.reduceMul, Nat.reduceSub, allOne, AV.one, Value.oneCell']
      refine callGo_yield (i := ⟨35, [1, 2], [6], as26_0, bd26_0, .ready, none⟩) (cells := [.bp 0 0, .bp 1 0]) (by simp only [go_sem, Nat.reduceAdd, Nat.reduceEqDiff, Nat.reduceLT, reduceIte, reduceCtorEq, Nat.reduceBEq, Int.reduceLT, Int.reduceToNat, Int.reducePow, Nat.reduceLeDiff, Int.reduceLE, Nat.reduceMul, Nat.reduceSub]) rfl rfl ?_
      simp only [go_sem, Nat.reduceAdd, Nat.reduceEqDiff, Nat.reduceLT, reduceIte, reduceCtorEq, Nat.reduceBEq, Int.reduceLT, Int.reduceToNat, Int.reducePow, Nat.reduceLeDiff, Int.reduceLE, Nat.reduceMul, Nat.reduceSub, allOne, AV.one, Value.oneCell', Int.natCast_zero, Nat.le_refl]
      have fine : z.2.2 = true → validL b = (cut (i + z.2.1) (b.drop (i + z.2.1))).all (fun x => x.2.2.2) := fun h => by
        rw [hv, hc, List.all_cons]; simp only [h, Bool.true_and]
      have bad : z.2.2 = false → validL b = false := fun h => by
        rw [hv, hc, List.all_cons]; simp only [h, Bool.false_and]
      have hsub : IntKind.i64.wrap (((i + z.2.1 : Nat) : Int) - (i : Int)) = (z.2.1 : Nat) := by rw [wrap_i64 _ (by omega) (by omega)]; omega
      by_cases h1 : z.1 = 65533
      · have b1 : (((z.1 : Nat) : Int) == 65533) = true := by rw [h1]; rfl
        simp only [b1, hsub, go_sem, Nat.reduceAdd, Nat.reduceEqDiff, Nat.reduceLT, reduceIte, reduceCtorEq, Nat.reduceBEq, Int.reduceLT, Int.reduceToNat, Int.reducePow, Nat.reduceLeDiff, Int.reduceLE, Nat.reduceMul, Nat.reduceSub]
        by_cases h2 : z.2.1 = 3
        · have b2 : (((z.2.1 : Nat) : Int) != 3) = false := by rw [h2]; rfl
          have hg := octs_get b i hlt
          simp only [b2, hg, go_sem, Nat.reduceAdd, Nat.reduceEqDiff, Nat.reduceLT, reduceIte, reduceCtorEq, Nat.reduceBEq, Int.reduceLT, Int.reduceToNat, Int.reducePow, Nat.reduceLeDiff, Int.reduceLE, Nat.reduceMul, Nat.reduceSub]
          by_cases h3 : b[i] = 239
          · have b3 : (((b[i] : Nat) : Int) != 239) = false := by rw [h3]; rfl
            have hsub2 : IntKind.i64.wrap (((i + z.2.1 : Nat) : Int) - 1) = ((i + 2 : Nat) : Int) := by rw [wrap_i64 _ (by omega) (by omega)]; omega
            have hlt2 : i + 2 < b.length := by omega
            have hg2 := octs_get b (i + 2) hlt2
            simp only [b3, hsub2, hg2, go_sem, Nat.reduceAdd, Nat.reduceEqDiff, Nat.reduceLT, reduceIte, reduceCtorEq, Nat.reduceBEq, Int.reduceLT, Int.reduceToNat, Int.reducePow, Nat.reduceLeDiff, Int.reduceLE, Nat.reduceMul, Nat.reduceSub]
            have ht : z.2.2 = true := by
              cases h : z.2.2 with
              | true => rfl
              | false => have := (hfl h).2.2 h2; omega
            have h4 : b[i + 2] = 189 := (hok1 ht h1).2.2 hlt2
            have b4 : (((b[i + 2] : Nat) : Int) != 189) = false := by rw [h4]; rfl
            simp only [b4, go_sem, Nat.reduceAdd, Nat.reduceEqDiff, Nat.reduceLT, reduceIte, reduceCtorEq, Nat.reduceBEq, Int.reduceLT, Int.reduceToNat, Int.reducePow, Nat.reduceLeDiff, Int.reduceLE, Nat.reduceMul, Nat.reduceSub, allOne, AV.one, Value.oneCell', Nat.le_refl]
            refine ⟨_, weak_by (tp1 := []) [0, 1, 2, 3] (by simp) rfl ?_ ?_ trivial ?_, ⟨i + z.2.1, hk.2.1, fine ht, rfl⟩, ?_⟩
            · simp only [go_sem, Nat.reduceAdd, Nat.reduceEqDiff, Nat.reduceLT, reduceIte, reduceCtorEq, Nat.reduceBEq, Int.reduceLT, Int.reduceToNat, Int.reducePow, Nat.reduceLeDiff, Int.reduceLE, Nat.reduceMul, Nat.reduceSub, slotsBy, boxesBy, tipsBy, rawAt, nm, AV.ren, AV.renL, AV.under, AV.underL, List.all_nil, List.all_cons, bne_self_eq_false, List.getD_cons_zero, List.getD_cons_succ, List.length_nil, List.length_cons, and_true, true_and, hw]
            · simp only [go_sem, Nat.reduceAdd, Nat.reduceEqDiff, Nat.reduceLT, reduceIte, reduceCtorEq, Nat.reduceBEq, Int.reduceLT, Int.reduceToNat, Int.reducePow, Nat.reduceLeDiff, Int.reduceLE, Nat.reduceMul, Nat.reduceSub, slotsBy, boxesBy, tipsBy, rawAt, nm, AV.ren, AV.renL, AV.under, AV.underL, List.all_nil, List.all_cons, bne_self_eq_false, List.getD_cons_zero, List.getD_cons_succ, List.length_nil, List.length_cons, and_true, true_and]
              simp
            · refine ⟨by simp, fun i hi => ?_⟩
              match i, hi with
              | 0, _ => rfl
              | 1, _ => rfl
              | 2, _ => rfl
              | 3, _ => rfl
            · simp only [cnt, go_sem, Nat.reduceAdd, Nat.reduceEqDiff, Nat.reduceLT, reduceIte, reduceCtorEq, Nat.reduceBEq, Int.reduceLT, Int.reduceToNat, Int.reducePow, Nat.reduceLeDiff, Int.reduceLE, Nat.reduceMul, Nat.reduceSub, Int.toNat_natCast]; omega
          · have b3 : (((b[i] : Nat) : Int) != 239) = true := by simp only [bne_iff_ne, ne_eq]; omega
            have hf : z.2.2 = false := by
              cases h : z.2.2 with
              | false => rfl
              | true => exact absurd (hok1 h h1).2.1 h3
            simp only [b3, go_sem, Nat.reduceAdd, Nat.reduceEqDiff, Nat.reduceLT, reduceIte, reduceCtorEq, Nat.reduceBEq, Int.reduceLT, Int.reduceToNat, Int.reducePow, Nat.reduceLeDiff, Int.reduceLE, Nat.reduceMul, Nat.reduceSub, allOne, AV.one, Value.oneCell', Nat.le_refl]
            refine ⟨by simp, _, rfl, ?_⟩
            simp only [rfnPost, go_sem, Nat.reduceAdd, Nat.reduceEqDiff, Nat.reduceLT, reduceIte, reduceCtorEq, Nat.reduceBEq, Int.reduceLT, Int.reduceToNat, Int.reducePow, Nat.reduceLeDiff, Int.reduceLE, Nat.reduceMul, Nat.reduceSub, allOne, AV.one, Value.oneCell', Nat.le_refl]
            refine ⟨.inr rfl, ?_⟩
            rw [bad hf]
            exact resAV_one (resOne_one (id := 1) bool_info bool_agg bool_und (by simp only [go_sem, Nat.reduceAdd, Nat.reduceEqDiff, Nat.reduceLT, reduceIte, reduceCtorEq, Nat.reduceBEq, Int.reduceLT, Int.reduceToNat, Int.reducePow, Nat.reduceLeDiff, Int.reduceLE, Nat.reduceMul, Nat.reduceSub]) (by simp only [go_sem, Nat.reduceAdd, Nat.reduceEqDiff, Nat.reduceLT, reduceIte, reduceCtorEq, Nat.reduceBEq, Int.reduceLT, Int.reduceToNat, Int.reducePow, Nat.reduceLeDiff, Int.reduceLE, Nat.reduceMul, Nat.reduceSub]))
        · have b2 : (((z.2.1 : Nat) : Int) != 3) = true := by simp only [bne_iff_ne, ne_eq]; omega
          have hf : z.2.2 = false := by
            cases h : z.2.2 with
            | false => rfl
            | true => exact absurd (hok1 h h1).1 h2
          simp only [b2, go_sem, Nat.reduceAdd, Nat.reduceEqDiff, Nat.reduceLT, reduceIte, reduceCtorEq, Nat.reduceBEq, Int.reduceLT, Int.reduceToNat, Int.reducePow, Nat.reduceLeDiff, Int.reduceLE, Nat.reduceMul, Nat.reduceSub, allOne, AV.one, Value.oneCell', Nat.le_refl]
          refine ⟨by simp, _, rfl, ?_⟩
          simp only [rfnPost, go_sem, Nat.reduceAdd, Nat.reduceEqDiff, Nat.reduceLT, reduceIte, reduceCtorEq, Nat.reduceBEq, Int.reduceLT, Int.reduceToNat, Int.reducePow, Nat.reduceLeDiff, Int.reduceLE, Nat.reduceMul, Nat.reduceSub, allOne, AV.one, Value.oneCell', Nat.le_refl]
          refine ⟨.inr rfl, ?_⟩
          rw [bad hf]
          exact resAV_one (resOne_one (id := 1) bool_info bool_agg bool_und (by simp only [go_sem, Nat.reduceAdd, Nat.reduceEqDiff, Nat.reduceLT, reduceIte, reduceCtorEq, Nat.reduceBEq, Int.reduceLT, Int.reduceToNat, Int.reducePow, Nat.reduceLeDiff, Int.reduceLE, Nat.reduceMul, Nat.reduceSub]) (by simp only [go_sem, Nat.reduceAdd, Nat.reduceEqDiff, Nat.reduceLT, reduceIte, reduceCtorEq, Nat.reduceBEq, Int.reduceLT, Int.reduceToNat, Int.reducePow, Nat.reduceLeDiff, Int.reduceLE, Nat.reduceMul, Nat.reduceSub]))
      · have b1 : (((z.1 : Nat) : Int) == 65533) = false := by simp only [beq_eq_false_iff_ne, ne_eq]; omega
        have ht : z.2.2 = true := by
          cases h : z.2.2 with
          | true => rfl
          | false => exact absurd (hfl h).1 h1
        simp only [b1, go_sem, Nat.reduceAdd, Nat.reduceEqDiff, Nat.reduceLT, reduceIte, reduceCtorEq, Nat.reduceBEq, Int.reduceLT, Int.reduceToNat, Int.reducePow, Nat.reduceLeDiff, Int.reduceLE, Nat.reduceMul, Nat.reduceSub]
        refine ⟨_, weak_by (tp1 := []) [0, 1, 2, 3] (by simp) rfl ?_ ?_ trivial ?_, ⟨i + z.2.1, hk.2.1, fine ht, rfl⟩, ?_⟩
        · simp only [go_sem, Nat.reduceAdd, Nat.reduceEqDiff, Nat.reduceLT, reduceIte, reduceCtorEq, Nat.reduceBEq, Int.reduceLT, Int.reduceToNat, Int.reducePow, Nat.reduceLeDiff, Int.reduceLE, Nat.reduceMul, Nat.reduceSub, slotsBy, boxesBy, tipsBy, rawAt, nm, AV.ren, AV.renL, AV.under, AV.underL, List.all_nil, List.all_cons, bne_self_eq_false, List.getD_cons_zero, List.getD_cons_succ, List.length_nil, List.length_cons, and_true, true_and, hw]
        · simp only [go_sem, Nat.reduceAdd, Nat.reduceEqDiff, Nat.reduceLT, reduceIte, reduceCtorEq, Nat.reduceBEq, Int.reduceLT, Int.reduceToNat, Int.reducePow, Nat.reduceLeDiff, Int.reduceLE, Nat.reduceMul, Nat.reduceSub, slotsBy, boxesBy, tipsBy, rawAt, nm, AV.ren, AV.renL, AV.under, AV.underL, List.all_nil, List.all_cons, bne_self_eq_false, List.getD_cons_zero, List.getD_cons_succ, List.length_nil, List.length_cons, and_true, true_and]
          simp
        · refine ⟨by simp, fun i hi => ?_⟩
          match i, hi with
          | 0, _ => rfl
          | 1, _ => rfl
          | 2, _ => rfl
          | 3, _ => rfl
        · simp only [cnt, go_sem, Nat.reduceAdd, Nat.reduceEqDiff, Nat.reduceLT, reduceIte, reduceCtorEq, Nat.reduceBEq, Int.reduceLT, Int.reduceToNat, Int.reducePow, Nat.reduceLeDiff, Int.reduceLE, Nat.reduceMul, Nat.reduceSub, Int.toNat_natCast]; omega
    · subst heq
      rw [List.drop_length, cut_nil] at hv
      simp only [dec_irr, go_sem, Nat.reduceAdd, Nat.reduceEqDiff, Nat.reduceLT, reduceIte, reduceCtorEq, Nat.reduceBEq, Int.reduceLT, Int.reduceToNat, Int.reducePow, Nat.reduceLeDiff, Int.reduceLE, Nat.reduceMul, Nat.reduceSub]
      refine ⟨by simp, _, rfl, ?_⟩
      simp only [rfnPost, go_sem, Nat.reduceAdd, Nat.reduceEqDiff, Nat.reduceLT, reduceIte, reduceCtorEq, Nat.reduceBEq, Int.reduceLT, Int.reduceToNat, Int.reducePow, Nat.reduceLeDiff, Int.reduceLE, Nat.reduceMul, Nat.reduceSub, allOne, AV.one, Value.oneCell', Nat.le_refl]
      refine ⟨.inr rfl, ?_⟩
      rw [hv]
      exact resAV_one (resOne_one (id := 1) bool_info bool_agg bool_und (by simp only [go_sem, Nat.reduceAdd, Nat.reduceEqDiff, Nat.reduceLT, reduceIte, reduceCtorEq, Nat.reduceBEq, Int.reduceLT, Int.reduceToNat, Int.reducePow, Nat.reduceLeDiff, Int.reduceLE, Nat.reduceMul, Nat.reduceSub]) (by simp only [go_sem, Nat.reduceAdd, Nat.reduceEqDiff, Nat.reduceLT, reduceIte, reduceCtorEq, Nat.reduceBEq, Int.reduceLT, Int.reduceToNat, Int.reducePow, Nat.reduceLeDiff, Int.reduceLE, Nat.reduceMul, Nat.reduceSub, List.all_nil]))
end Go.Proofs.Ytbnaepdeakcljaa
