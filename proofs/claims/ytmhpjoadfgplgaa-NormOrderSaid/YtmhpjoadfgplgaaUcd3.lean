/-
What is known of a code point. Conditions: none.
-/
import Derived.Test.YtmhpjoadfgplgaaUcd2
set_option linter.unusedSimpArgs false
set_option linter.unusedVariables false
set_option linter.unusedSectionVars false
namespace Go.Proofs.Ytmhpjoadfgplgaa
open Go Go.Ab

/-- A row of the table. -/
structure Row where
  fr : Int
  to : Int
  cat : Int
  bidi : Int
  join : Int
  ccc : Int
  script : Int
  digits : Int
  width : Int
deriving DecidableEq, Inhabited

def Row.prop (x : Row) : List Value := [.int .u8 x.cat, .int .u8 x.bidi, .int .u8 x.join, .int .u8 x.ccc, .int .u8 x.script, .int .u8 x.digits, .int .u8 x.width]
def Row.cells (x : Row) : List Value := [.int .i32 x.fr, .int .i32 x.to, .int .u8 x.cat, .int .u8 x.bidi, .int .u8 x.join, .int .u8 x.ccc, .int .u8 x.script, .int .u8 x.digits, .int .u8 x.width]
def Row.nums (x : Row) : List Value := [.int .i64 x.fr, .int .i64 x.to, .int .i64 x.cat, .int .i64 x.bidi, .int .i64 x.join, .int .i64 x.ccc, .int .i64 x.script, .int .i64 x.digits, .int .i64 x.width]

def readRow : List Value → Row
  | [.int _ a, .int _ b, .int _ c, .int _ d, .int _ e, .int _ f, .int _ g, .int _ h, .int _ i] => ⟨a, b, c, d, e, f, g, h, i⟩
  | _ => default

def t1 : List Row := tb1.map readRow
def t2 : List Row := tb2.map readRow
def t3 : List Row := tb3.map readRow
def t4 : List Row := tb4.map readRow
def t5 : List Row := tb5.map readRow
theorem tb1_eq : tb1 = t1.map Row.cells := by kernel_rfl
theorem tb2_eq : tb2 = t2.map Row.cells := by kernel_rfl
theorem tb3_eq : tb3 = t3.map Row.cells := by kernel_rfl
theorem tb4_eq : tb4 = t4.map Row.cells := by kernel_rfl
theorem tb5_eq : tb5 = t5.map Row.cells := by kernel_rfl
theorem rf1_eq : rf1 = t1.map Row.nums := by kernel_rfl
theorem rf2_eq : rf2 = t2.map Row.nums := by kernel_rfl
theorem rf3_eq : rf3 = t3.map Row.nums := by kernel_rfl
theorem rf4_eq : rf4 = t4.map Row.nums := by kernel_rfl
theorem rf5_eq : rf5 = t5.map Row.nums := by kernel_rfl

/-- The part of the table in which a code point is. -/
def partOf (r : Int) : List Row := if r < 127 then t1 else if r < 1030 then t2 else if r < 1617 then t3 else if r < 8238 then t4 else t5

def rising : List Row → Bool
  | x :: y :: l => decide (x.fr ≤ x.to) && decide (x.to < y.fr) && rising (y :: l)
  | [x] => decide (x.fr ≤ x.to)
  | [] => true
def octets (x : Row) : Bool := [x.cat, x.bidi, x.join, x.ccc, x.script, x.digits, x.width].all fun n => decide (0 ≤ n) && decide (n ≤ 255)
theorem ok1 : (rising t1 && t1.all octets) = true := by kernel_rfl
theorem ok2 : (rising t2 && t2.all octets) = true := by kernel_rfl
theorem ok3 : (rising t3 && t3.all octets) = true := by kernel_rfl
theorem ok4 : (rising t4 && t4.all octets) = true := by kernel_rfl
theorem ok5 : (rising t5 && t5.all octets) = true := by kernel_rfl
theorem len1 : t1.length = 34 := by kernel_rfl
theorem len2 : t2.length = 34 := by kernel_rfl
theorem len3 : t3.length = 34 := by kernel_rfl
theorem len4 : t4.length = 34 := by kernel_rfl

theorem partOf_cases {p : List Row → Prop} (h1 : p t1) (h2 : p t2) (h3 : p t3) (h4 : p t4) (h5 : p t5) (r : Int) : p (partOf r) := by
  unfold partOf
  split
  · exact h1
  · split
    · exact h2
    · split
      · exact h3
      · split
        · exact h4
        · exact h5

theorem partOf_rising (r : Int) : rising (partOf r) = true := by
  have h := partOf_cases (p := fun l => (rising l && l.all octets) = true) ok1 ok2 ok3 ok4 ok5 r
  simp only [Bool.and_eq_true] at h
  exact h.1
theorem partOf_octets (r : Int) : ∀ x ∈ partOf r, octets x = true := by
  have h := partOf_cases (p := fun l => (rising l && l.all octets) = true) ok1 ok2 ok3 ok4 ok5 r
  simp only [Bool.and_eq_true] at h
  exact List.all_eq_true.1 h.2

theorem rising_lt : ∀ {l : List Row}, rising l = true → ∀ {i j : Nat} {x y : Row}, i < j → l[i]? = some x → l[j]? = some y → x.to < y.fr ∧ x.fr ≤ x.to ∧ y.fr ≤ y.to
  | [], _, i, j, x, y, _, hx, _ => by simp at hx
  | [z], _, i, j, x, y, hij, hx, hy => by
    have := (List.getElem?_eq_some_iff.1 hy).1
    simp at this; omega
  | a :: b :: l, h, i, j, x, y, hij, hx, hy => by
    simp only [rising, Bool.and_eq_true, decide_eq_true_eq] at h
    obtain ⟨⟨h1, h2⟩, h3⟩ := h
    cases j with
    | zero => omega
    | succ j =>
      have hy' : (b :: l)[j]? = some y := by simpa using hy
      cases i with
      | zero =>
        have hxa : a = x := by simpa using hx
        subst hxa
        cases j with
        | zero =>
          have hyb : b = y := by simpa using hy'
          subst hyb
          refine ⟨h2, h1, ?_⟩
          cases l with
          | nil => simpa [rising] using h3
          | cons c l => simp only [rising, Bool.and_eq_true, decide_eq_true_eq] at h3; exact h3.1.1
        | succ j =>
          have := rising_lt h3 (i := 0) (j := j + 1) (x := b) (y := y) (by omega) rfl hy'
          exact ⟨by omega, h1, this.2.2⟩
      | succ i => exact rising_lt h3 (i := i) (j := j) (by omega) (by simpa using hx) hy'

def plainProp : List Value := [.int .u8 0, .int .u8 0, .int .u8 0, .int .u8 0, .int .u8 0, .int .u8 0, .int .u8 1]

/-- Where a code point would be in the table. -/
def place (r : Int) : Nat := (partOf r).findIdx fun x => decide (r ≤ x.to)

/-- What is known of a code point. -/
def rowAt (r : Int) : Row := match (partOf r)[place r]? with
  | some x => if r < x.fr then ⟨0, 0, 0, 0, 0, 0, 0, 0, 1⟩ else x
  | none => ⟨0, 0, 0, 0, 0, 0, 0, 0, 1⟩

theorem cells_get (l : List Row) (i : Nat) : (l.map Row.cells)[i]? = (l[i]?).map Row.cells := by simp

theorem partOf_len (r : Int) : (partOf r).length ≤ 40 := partOf_cases (p := fun l => l.length ≤ 40) (by rw [len1]; omega) (by rw [len2]; omega) (by rw [len3]; omega) (by rw [len4]; omega) (of_decide_eq_true (by kernel_rfl)) r

set_option maxRecDepth 10000 in
theorem part_pure (r : Int) : Pure Try.prog 63 [.lit (.int .i32 r)] [99] (.sl 99 ((partOf r).map Row.cells) (some 0)) := by
  refine pure1 Try.func63 c63 n63 e63 r63 (by simp) ?_
  simp only [a63, astart, argSlots, go_sem, Nat.reduceAdd, Nat.reduceEqDiff, Nat.reduceLT, reduceIte, reduceCtorEq, Nat.reduceBEq, Int.reduceLT, Int.reduceToNat, Int.reducePow, Nat.reduceLeDiff, Int.reduceLE, Nat.reduceMul, Nat.reduceSub]
  refine cGo_split (fun h1 => ?_) (fun h1 => ?_) <;> simp only [decide_eq_true_eq, decide_eq_false_iff_not] at h1
  · simp only [go_sem, Nat.reduceAdd, Nat.reduceEqDiff, Nat.reduceLT, reduceIte, reduceCtorEq, Nat.reduceBEq, Int.reduceLT, Int.reduceToNat, Int.reducePow, Nat.reduceLeDiff, Int.reduceLE, Nat.reduceMul, Nat.reduceSub, partOf, h1]
    refine callGo_pure part1_pure rfl ?_
    simp only [go_sem, Nat.reduceAdd, Nat.reduceEqDiff, Nat.reduceLT, reduceIte, reduceCtorEq, Nat.reduceBEq, Int.reduceLT, Int.reduceToNat, Int.reducePow, Nat.reduceLeDiff, Int.reduceLE, Nat.reduceMul, Nat.reduceSub, AV.shift, idx, List.nil_append, List.cons_append, List.length_cons, List.length_nil, tb1_eq]
    exact ⟨.inr rfl, 0, by simp only [resAV, resL, resOne, go_sem, Nat.reduceAdd, Nat.reduceEqDiff, Nat.reduceLT, reduceIte, reduceCtorEq, Nat.reduceBEq, Int.reduceLT, Int.reduceToNat, Int.reducePow, Nat.reduceLeDiff, Int.reduceLE, Nat.reduceMul, Nat.reduceSub], by simp [go_sem, Nat.reduceAdd, Nat.reduceEqDiff, Nat.reduceLT, reduceIte, reduceCtorEq, Nat.reduceBEq, Int.reduceLT, Int.reduceToNat, Int.reducePow, Nat.reduceLeDiff, Int.reduceLE, Nat.reduceMul, Nat.reduceSub]⟩
  · simp only [go_sem, Nat.reduceAdd, Nat.reduceEqDiff, Nat.reduceLT, reduceIte, reduceCtorEq, Nat.reduceBEq, Int.reduceLT, Int.reduceToNat, Int.reducePow, Nat.reduceLeDiff, Int.reduceLE, Nat.reduceMul, Nat.reduceSub]
    refine cGo_split (fun h2 => ?_) (fun h2 => ?_) <;> simp only [decide_eq_true_eq, decide_eq_false_iff_not] at h2
    · simp only [go_sem, Nat.reduceAdd, Nat.reduceEqDiff, Nat.reduceLT, reduceIte, reduceCtorEq, Nat.reduceBEq, Int.reduceLT, Int.reduceToNat, Int.reducePow, Nat.reduceLeDiff, Int.reduceLE, Nat.reduceMul, Nat.reduceSub, partOf, h1, h2]
      refine callGo_pure part2_pure rfl ?_
      simp only [go_sem, Nat.reduceAdd, Nat.reduceEqDiff, Nat.reduceLT, reduceIte, reduceCtorEq, Nat.reduceBEq, Int.reduceLT, Int.reduceToNat, Int.reducePow, Nat.reduceLeDiff, Int.reduceLE, Nat.reduceMul, Nat.reduceSub, AV.shift, idx, List.nil_append, List.cons_append, List.length_cons, List.length_nil, tb2_eq]
      exact ⟨.inr rfl, 0, by simp only [resAV, resL, resOne, go_sem, Nat.reduceAdd, Nat.reduceEqDiff, Nat.reduceLT, reduceIte, reduceCtorEq, Nat.reduceBEq, Int.reduceLT, Int.reduceToNat, Int.reducePow, Nat.reduceLeDiff, Int.reduceLE, Nat.reduceMul, Nat.reduceSub], by simp [go_sem, Nat.reduceAdd, Nat.reduceEqDiff, Nat.reduceLT, reduceIte, reduceCtorEq, Nat.reduceBEq, Int.reduceLT, Int.reduceToNat, Int.reducePow, Nat.reduceLeDiff, Int.reduceLE, Nat.reduceMul, Nat.reduceSub]⟩
    · simp only [go_sem, Nat.reduceAdd, Nat.reduceEqDiff, Nat.reduceLT, reduceIte, reduceCtorEq, Nat.reduceBEq, Int.reduceLT, Int.reduceToNat, Int.reducePow, Nat.reduceLeDiff, Int.reduceLE, Nat.reduceMul, Nat.reduceSub]
      refine cGo_split (fun h3 => ?_) (fun h3 => ?_) <;> simp only [decide_eq_true_eq, decide_eq_false_iff_not] at h3
      · simp only [go_sem, Nat.reduceAdd, Nat.reduceEqDiff, Nat.reduceLT, reduceIte, reduceCtorEq, Nat.reduceBEq, Int.reduceLT, Int.reduceToNat, Int.reducePow, Nat.reduceLeDiff, Int.reduceLE, Nat.reduceMul, Nat.reduceSub, partOf, h1, h2, h3]
        refine callGo_pure part3_pure rfl ?_
        simp only [go_sem, Nat.reduceAdd, Nat.reduceEqDiff, Nat.reduceLT, reduceIte, reduceCtorEq, Nat.reduceBEq, Int.reduceLT, Int.reduceToNat, Int.reducePow, Nat.reduceLeDiff, Int.reduceLE, Nat.reduceMul, Nat.reduceSub, AV.shift, idx, List.nil_append, List.cons_append, List.length_cons, List.length_nil, tb3_eq]
        exact ⟨.inr rfl, 0, by simp only [resAV, resL, resOne, go_sem, Nat.reduceAdd, Nat.reduceEqDiff, Nat.reduceLT, reduceIte, reduceCtorEq, Nat.reduceBEq, Int.reduceLT, Int.reduceToNat, Int.reducePow, Nat.reduceLeDiff, Int.reduceLE, Nat.reduceMul, Nat.reduceSub], by simp [go_sem, Nat.reduceAdd, Nat.reduceEqDiff, Nat.reduceLT, reduceIte, reduceCtorEq, Nat.reduceBEq, Int.reduceLT, Int.reduceToNat, Int.reducePow, Nat.reduceLeDiff, Int.reduceLE, Nat.reduceMul, Nat.reduceSub]⟩
      · simp only [go_sem, Nat.reduceAdd, Nat.reduceEqDiff, Nat.reduceLT, reduceIte, reduceCtorEq, Nat.reduceBEq, Int.reduceLT, Int.reduceToNat, Int.reducePow, Nat.reduceLeDiff, Int.reduceLE, Nat.reduceMul, Nat.reduceSub]
        refine cGo_split (fun h4 => ?_) (fun h4 => ?_) <;> simp only [decide_eq_true_eq, decide_eq_false_iff_not] at h4
        · simp only [go_sem, Nat.reduceAdd, Nat.reduceEqDiff, Nat.reduceLT, reduceIte, reduceCtorEq, Nat.reduceBEq, Int.reduceLT, Int.reduceToNat, Int.reducePow, Nat.reduceLeDiff, Int.reduceLE, Nat.reduceMul, Nat.reduceSub, partOf, h1, h2, h3, h4]
          refine callGo_pure part4_pure rfl ?_
          simp only [go_sem, Nat.reduceAdd, Nat.reduceEqDiff, Nat.reduceLT, reduceIte, reduceCtorEq, Nat.reduceBEq, Int.reduceLT, Int.reduceToNat, Int.reducePow, Nat.reduceLeDiff, Int.reduceLE, Nat.reduceMul, Nat.reduceSub, AV.shift, idx, List.nil_append, List.cons_append, List.length_cons, List.length_nil, tb4_eq]
          exact ⟨.inr rfl, 0, by simp only [resAV, resL, resOne, go_sem, Nat.reduceAdd, Nat.reduceEqDiff, Nat.reduceLT, reduceIte, reduceCtorEq, Nat.reduceBEq, Int.reduceLT, Int.reduceToNat, Int.reducePow, Nat.reduceLeDiff, Int.reduceLE, Nat.reduceMul, Nat.reduceSub], by simp [go_sem, Nat.reduceAdd, Nat.reduceEqDiff, Nat.reduceLT, reduceIte, reduceCtorEq, Nat.reduceBEq, Int.reduceLT, Int.reduceToNat, Int.reducePow, Nat.reduceLeDiff, Int.reduceLE, Nat.reduceMul, Nat.reduceSub]⟩
        · simp only [go_sem, Nat.reduceAdd, Nat.reduceEqDiff, Nat.reduceLT, reduceIte, reduceCtorEq, Nat.reduceBEq, Int.reduceLT, Int.reduceToNat, Int.reducePow, Nat.reduceLeDiff, Int.reduceLE, Nat.reduceMul, Nat.reduceSub, partOf, h1, h2, h3, h4]
          refine callGo_pure part5_pure rfl ?_
          simp only [go_sem, Nat.reduceAdd, Nat.reduceEqDiff, Nat.reduceLT, reduceIte, reduceCtorEq, Nat.reduceBEq, Int.reduceLT, Int.reduceToNat, Int.reducePow, Nat.reduceLeDiff, Int.reduceLE, Nat.reduceMul, Nat.reduceSub, AV.shift, idx, List.nil_append, List.cons_append, List.length_cons, List.length_nil, tb5_eq]
          exact ⟨.inr rfl, 0, by simp only [resAV, resL, resOne, go_sem, Nat.reduceAdd, Nat.reduceEqDiff, Nat.reduceLT, reduceIte, reduceCtorEq, Nat.reduceBEq, Int.reduceLT, Int.reduceToNat, Int.reducePow, Nat.reduceLeDiff, Int.reduceLE, Nat.reduceMul, Nat.reduceSub], by simp [go_sem, Nat.reduceAdd, Nat.reduceEqDiff, Nat.reduceLT, reduceIte, reduceCtorEq, Nat.reduceBEq, Int.reduceLT, Int.reduceToNat, Int.reducePow, Nat.reduceLeDiff, Int.reduceLE, Nat.reduceMul, Nat.reduceSub]⟩

set_option maxRecDepth 10000 in
theorem of1_pure (l : List Row) (r : Int) (i : Nat) {x : Row} (hx : l[i]? = some x) : Pure Try.prog 65 [.lit (.int .i64 i), .ep [.sl 99 (l.map Row.cells) none], .ep [.lit (.int .i32 r)]] [] (.lit (.bool (decide (r ≤ x.to)))) := by
  refine pure0 Try.func65 c65 n65 e65 r65 (by simp) rfl ?_
  simp only [a65, astart, argSlots, go_sem, Nat.reduceAdd, Nat.reduceEqDiff, Nat.reduceLT, reduceIte, reduceCtorEq, Nat.reduceBEq, Int.reduceLT, Int.reduceToNat, Int.reducePow, Nat.reduceLeDiff, Int.reduceLE, Nat.reduceMul, Nat.reduceSub, List.getElem?_cons_zero, List.getElem?_cons_succ, Int.natCast_nonneg, Int.toNat_natCast, cells_get, hx, Row.cells, List.map_cons, List.map_nil, List.drop_succ_cons, List.drop_zero]
  simp only [Done, resAV, resL, resOne, look_nil, look_cons, Nat.reduceEqDiff, if_true, if_false, reduceIte, ite_true, ite_false, Nat.zero_ne_one, Nat.one_ne_zero, reduceCtorEq, true_or, or_true, true_and, Option.some.injEq, AV.lit.injEq, Value.int.injEq, Value.bool.injEq]

theorem place_le (r : Int) : place r ≤ (partOf r).length := List.findIdx_le_length
theorem place_lt {r : Int} {i : Nat} (h : i < place r) {x : Row} (hx : (partOf r)[i]? = some x) : decide (r ≤ x.to) = false := by
  have h1 := List.not_of_lt_findIdx h
  have hlt : i < (partOf r).length := Nat.lt_of_lt_of_le h (place_le r)
  rw [List.getElem?_eq_getElem hlt, Option.some.injEq] at hx
  subst hx
  simpa using h1
theorem place_ge {r : Int} {i : Nat} (h : place r ≤ i) {x : Row} (hx : (partOf r)[i]? = some x) : decide (r ≤ x.to) = true := by
  have hlt : i < (partOf r).length := (List.getElem?_eq_some_iff.1 hx).1
  have hp : place r < (partOf r).length := Nat.lt_of_le_of_lt h hlt
  have h1 := List.findIdx_getElem (w := hp)
  have hy : (partOf r)[place r]? = some (partOf r)[place r] := List.getElem?_eq_getElem hp
  simp only [decide_eq_true_eq] at h1 ⊢
  rcases Nat.lt_or_eq_of_le h with hl | he
  · have := rising_lt (partOf_rising r) hl hy hx
    have h2 : r ≤ ((partOf r)[place r]).to := h1
    omega
  · subst he
    rw [hy, Option.some.injEq] at hx
    subst hx
    exact h1

theorem prop_info : (Try.prog.info? 43).map (·.size) = some 7 := by kernel_rfl
theorem prop_agg : aggB Try.prog 43 = true := by kernel_rfl

set_option maxRecDepth 10000 in
theorem of_pure (r : Int) : Pure Try.prog 27 [.lit (.int .i32 r)] [] (.ag ((rowAt r).prop.map .lit)) := by
  refine pure0 Try.func27 c27 n27 e27 r27 (by simp) (by simp [AV.under, AV.underL, Row.prop]) ?_
  simp only [a27, astart, argSlots, go_sem, Nat.reduceAdd, Nat.reduceEqDiff, Nat.reduceLT, reduceIte, reduceCtorEq, Nat.reduceBEq, Int.reduceLT, Int.reduceToNat, Int.reducePow, Nat.reduceLeDiff, Int.reduceLE, Nat.reduceMul, Nat.reduceSub]
  refine callGo_pure (part_pure r) (by rfl) ?_
  simp only [go_sem, Nat.reduceAdd, Nat.reduceEqDiff, Nat.reduceLT, reduceIte, reduceCtorEq, Nat.reduceBEq, Int.reduceLT, Int.reduceToNat, Int.reducePow, Nat.reduceLeDiff, Int.reduceLE, Nat.reduceMul, Nat.reduceSub]
  refine callGo_see (search_pure (g := 65) (first := []) (cap := [.ep [.sl 99 ((partOf r).map Row.cells) none], .ep [.lit (.int .i32 r)]]) (n := (partOf r).length) (k := place r) (p := fun i => ((partOf r)[i]?).elim true fun x => decide (r ≤ x.to)) (by have := partOf_len r; omega) (place_le r) ?_ ?_ rfl ?_) ?_ rfl ?_
  · intro i hi
    have hlt : i < (partOf r).length := Nat.lt_of_lt_of_le hi (place_le r)
    have hx := List.getElem?_eq_getElem hlt
    simp only [hx, Option.elim_some]
    exact place_lt hi hx
  · intro i hi hlt
    have hx := List.getElem?_eq_getElem hlt
    simp only [hx, Option.elim_some]
    exact place_ge hi hx
  · intro i hlt
    have hx := List.getElem?_eq_getElem hlt
    refine ⟨_, rfl, ?_⟩
    simp only [hx, Option.elim_some]
    exact of1_pure _ r i hx
  · simp only [List.length_map]
    rfl
  · simp only [go_sem, Nat.reduceAdd, Nat.reduceEqDiff, Nat.reduceLT, reduceIte, reduceCtorEq, Nat.reduceBEq, Int.reduceLT, Int.reduceToNat, Int.reducePow, Nat.reduceLeDiff, Int.reduceLE, Nat.reduceMul, Nat.reduceSub, List.length_map, Int.natCast_nonneg, Int.toNat_natCast]
    rcases Nat.lt_or_eq_of_le (place_le r) with hl | he
    · have hx := List.getElem?_eq_getElem hl
      have hb : (((place r : Nat) : Int) == ((partOf r).length : Int)) = false := by simp only [beq_eq_false_iff_ne, ne_eq]; omega
      have hrow : rowAt r = if r < ((partOf r)[place r]).fr then ⟨0, 0, 0, 0, 0, 0, 0, 0, 1⟩ else (partOf r)[place r] := by simp only [rowAt, hx]
      generalize (partOf r)[place r] = x at hx hrow
      simp only [go_sem, Nat.reduceAdd, Nat.reduceEqDiff, Nat.reduceLT, reduceIte, reduceCtorEq, Nat.reduceBEq, Int.reduceLT, Int.reduceToNat, Int.reducePow, Nat.reduceLeDiff, Int.reduceLE, Nat.reduceMul, Nat.reduceSub, hb, List.length_map, Int.natCast_nonneg, Int.toNat_natCast, cells_get, hx, Row.cells]
      refine cGo_split (fun h => ?_) (fun h => ?_)
      · simp only [go_sem, Nat.reduceAdd, Nat.reduceEqDiff, Nat.reduceLT, reduceIte, reduceCtorEq, Nat.reduceBEq, Int.reduceLT, Int.reduceToNat, Int.reducePow, Nat.reduceLeDiff, Int.reduceLE, Nat.reduceMul, Nat.reduceSub]
        refine ⟨.inr rfl, resAV_one (resOne_ag (id := 1) prop_info prop_agg (by simp only [go_sem, Nat.reduceAdd, Nat.reduceEqDiff, Nat.reduceLT, reduceIte, reduceCtorEq, Nat.reduceBEq, Int.reduceLT, Int.reduceToNat, Int.reducePow, Nat.reduceLeDiff, Int.reduceLE, Nat.reduceMul, Nat.reduceSub]) (by simp only [go_sem, Nat.reduceAdd, Nat.reduceEqDiff, Nat.reduceLT, reduceIte, reduceCtorEq, Nat.reduceBEq, Int.reduceLT, Int.reduceToNat, Int.reducePow, Nat.reduceLeDiff, Int.reduceLE, Nat.reduceMul, Nat.reduceSub]; rfl) rfl) |>.trans ?_⟩
        simp only [decide_eq_true_eq] at h
        rw [hrow, if_pos h]; rfl
      · simp only [go_sem, Nat.reduceAdd, Nat.reduceEqDiff, Nat.reduceLT, reduceIte, reduceCtorEq, Nat.reduceBEq, Int.reduceLT, Int.reduceToNat, Int.reducePow, Nat.reduceLeDiff, Int.reduceLE, Nat.reduceMul, Nat.reduceSub, Int.natCast_nonneg, Int.toNat_natCast, cells_get, hx, Row.cells]
        refine ⟨.inr rfl, resAV_one (resOne_ag (id := 1) prop_info prop_agg (by simp only [go_sem, Nat.reduceAdd, Nat.reduceEqDiff, Nat.reduceLT, reduceIte, reduceCtorEq, Nat.reduceBEq, Int.reduceLT, Int.reduceToNat, Int.reducePow, Nat.reduceLeDiff, Int.reduceLE, Nat.reduceMul, Nat.reduceSub]) (by simp only [go_sem, Nat.reduceAdd, Nat.reduceEqDiff, Nat.reduceLT, reduceIte, reduceCtorEq, Nat.reduceBEq, Int.reduceLT, Int.reduceToNat, Int.reducePow, Nat.reduceLeDiff, Int.reduceLE, Nat.reduceMul, Nat.reduceSub]; rfl) rfl) |>.trans ?_⟩
        simp only [decide_eq_false_iff_not] at h
        rw [hrow, if_neg h]; rfl
    · have hb : (((place r : Nat) : Int) == ((partOf r).length : Int)) = true := by rw [he]; simp
      have hx : (partOf r)[place r]? = none := List.getElem?_eq_none (by omega)
      have hrow : rowAt r = ⟨0, 0, 0, 0, 0, 0, 0, 0, 1⟩ := by simp only [rowAt, hx]
      simp only [go_sem, Nat.reduceAdd, Nat.reduceEqDiff, Nat.reduceLT, reduceIte, reduceCtorEq, Nat.reduceBEq, Int.reduceLT, Int.reduceToNat, Int.reducePow, Nat.reduceLeDiff, Int.reduceLE, Nat.reduceMul, Nat.reduceSub, hb]
      refine ⟨.inr rfl, resAV_one (resOne_ag (id := 1) prop_info prop_agg (by simp only [go_sem, Nat.reduceAdd, Nat.reduceEqDiff, Nat.reduceLT, reduceIte, reduceCtorEq, Nat.reduceBEq, Int.reduceLT, Int.reduceToNat, Int.reducePow, Nat.reduceLeDiff, Int.reduceLE, Nat.reduceMul, Nat.reduceSub]) (by simp only [go_sem, Nat.reduceAdd, Nat.reduceEqDiff, Nat.reduceLT, reduceIte, reduceCtorEq, Nat.reduceBEq, Int.reduceLT, Int.reduceToNat, Int.reducePow, Nat.reduceLeDiff, Int.reduceLE, Nat.reduceMul, Nat.reduceSub]; rfl) rfl) |>.trans ?_⟩
      rw [hrow]; rfl
end Go.Proofs.Ytmhpjoadfgplgaa
