/-
What is known of code points. Conditions: none.
-/
import Derived.Test.YteekelelcbfekaaDoorAbSet
import Derived.Test.YteekelelcbfekaaDoorProg
import Derived.KernelRfl
set_option linter.unusedSimpArgs false
set_option linter.unusedVariables false
set_option linter.unusedSectionVars false

/-! ## Bas -/

namespace Go.Proofs.YteekelelcbfekaaDoor
open Go Go.Ab

/-- A label as cells. -/
def runes (l : List Int) : List (List Value) := l.map fun n => [.int .i32 n]
theorem runes_length (l : List Int) : (runes l).length = l.length := by simp [runes]
theorem runes_get (l : List Int) (i : Nat) (h : i < l.length) : (runes l)[i]? = some [.int .i32 l[i]] := by simp [runes, h]
/-- Values of the kind. -/
def I32 (l : List Int) : Prop := ∀ n ∈ l, -2147483648 ≤ n ∧ n ≤ 2147483647
/-- A label that is handed in. -/
def Runes (l : List Int) : Prop := l.length ≤ 35184372088064 ∧ I32 l
/-- Bytes as cells. -/
def octs (l : List Nat) : List (List Value) := l.map fun (n : Nat) => [.int .u8 (n : Int)]
theorem octs_length (l : List Nat) : (octs l).length = l.length := by simp [octs]
theorem octs_get (l : List Nat) (i : Nat) (h : i < l.length) : (octs l)[i]? = some [.int .u8 (l[i] : Int)] := by simp [octs, h]
/-- Bytes that are handed in. -/
def Octs (l : List Nat) : Prop := l.length ≤ 140737488351232 ∧ ∀ n ∈ l, n ≤ 255
theorem octs_of (z : List Int) (h : ∀ n ∈ z, 0 ≤ n ∧ n ≤ 255) : ∃ y : List Nat, (z.map fun n => [Value.int .u8 n]) = octs y ∧ (∀ n ∈ y, n ≤ 255) ∧ y.length = z.length := by
  refine ⟨z.map Int.toNat, ?_, ?_, by simp⟩
  · simp only [octs, List.map_map]
    refine List.map_congr_left fun n hn => ?_
    simp only [Function.comp, Int.toNat_of_nonneg (h n hn).1]
  · intro n hn
    obtain ⟨m, hm, rfl⟩ := List.mem_map.1 hn
    have := h m hm
    omega
theorem octs_append (a b : List Nat) : octs (a ++ b) = octs a ++ octs b := by simp [octs]
theorem runes_append (a b : List Int) : runes (a ++ b) = runes a ++ runes b := by simp [runes]
theorem octs_take (l : List Nat) (k : Nat) : (octs l).take k = octs (l.take k) := by simp [octs]
theorem octs_drop (l : List Nat) (k : Nat) : (octs l).drop k = octs (l.drop k) := by simp [octs]
theorem runes_take (l : List Int) (k : Nat) : (runes l).take k = runes (l.take k) := by simp [runes]
theorem runes_drop (l : List Int) (k : Nat) : (runes l).drop k = runes (l.drop k) := by simp [runes]

theorem dec_lt {i n : Nat} (h : i < n) : decide ((i : Int) < (n : Int)) = true := by simp only [decide_eq_true_eq]; omega
theorem dec_irr (n : Int) : decide (n < n) = false := by simp
theorem dec_nonneg (n : Nat) : decide ((n : Int) ≥ 0) = true := by simp
attribute [go_sem] runes_length octs_length dec_irr dec_nonneg Int.toNat_natCast Int.natCast_nonneg

/-- A call, by what is known of it. -/
theorem callGo_ok {P : Program} {g : FuncId} {xs : List AV} {sl : List (Nat × Option AV)} {bx : List (Nat × List AV)} {tp : List (Nat × TypeId)} {nx : Nat} {d : Option Nat} {K : State → Prop}
    (h : CallOK P g xs bx tp nx fun r bx tp nx => K (State.put ⟨sl, bx, tp, nx⟩ d r)) : callGo P (some (.fn (.func g) [] [])) (some xs) d ⟨sl, bx, tp, nx⟩ K := by
  simpa [callGo] using h

/-! ### Bits -/

theorem andI_u8 (s t : Nat) (hs : s < 256) (ht : t < 256) : andI .u8 s t = ((s &&& t : Nat) : Int) := by
  have h : s &&& t < 256 := Nat.lt_of_le_of_lt Nat.and_le_left hs
  have e : (BitVec.ofInt 8 (s : Int) &&& BitVec.ofInt 8 (t : Int)).toNat = s &&& t := by
    rw [BitVec.toNat_and]
    simp only [BitVec.ofInt_natCast, BitVec.toNat_ofNat]
    rw [Nat.mod_eq_of_lt (by simpa using hs), Nat.mod_eq_of_lt (by simpa using ht)]
  show IntKind.u8.wrap (((BitVec.ofInt 8 (s : Int) &&& BitVec.ofInt 8 (t : Int)).toNat : Nat) : Int) = _
  rw [e]
  exact wrap_u8 _ (by omega) (by omega)
theorem orI_u8 (s t : Nat) (hs : s < 256) (ht : t < 256) : orI .u8 s t = ((s ||| t : Nat) : Int) := by
  have h : s ||| t < 2 ^ 8 := Nat.or_lt_two_pow (by simpa using hs) (by simpa using ht)
  have e : (BitVec.ofInt 8 (s : Int) ||| BitVec.ofInt 8 (t : Int)).toNat = s ||| t := by
    rw [BitVec.toNat_or]
    simp only [BitVec.ofInt_natCast, BitVec.toNat_ofNat]
    rw [Nat.mod_eq_of_lt (by simpa using hs), Nat.mod_eq_of_lt (by simpa using ht)]
  show IntKind.u8.wrap (((BitVec.ofInt 8 (s : Int) ||| BitVec.ofInt 8 (t : Int)).toNat : Nat) : Int) = _
  rw [e]
  exact wrap_u8 _ (by omega) (by omega)
theorem orI_i32 (s t : Nat) (hs : s < 2147483648) (ht : t < 2147483648) : orI .i32 s t = ((s ||| t : Nat) : Int) := by
  have h : s ||| t < 2 ^ 31 := Nat.or_lt_two_pow (by simpa using hs) (by simpa using ht)
  have e : (BitVec.ofInt 32 (s : Int) ||| BitVec.ofInt 32 (t : Int)).toNat = s ||| t := by
    rw [BitVec.toNat_or]
    simp only [BitVec.ofInt_natCast, BitVec.toNat_ofNat]
    rw [Nat.mod_eq_of_lt (by omega), Nat.mod_eq_of_lt (by omega)]
  show IntKind.i32.wrap (((BitVec.ofInt 32 (s : Int) ||| BitVec.ofInt 32 (t : Int)).toNat : Nat) : Int) = _
  rw [e]
  exact wrap_i32 _ (by omega) (by omega)
theorem and_63 (n : Nat) : n &&& 63 = n % 64 := Nat.and_two_pow_sub_one_eq_mod n 6
theorem and_31 (n : Nat) : n &&& 31 = n % 32 := Nat.and_two_pow_sub_one_eq_mod n 5
theorem and_15 (n : Nat) : n &&& 15 = n % 16 := Nat.and_two_pow_sub_one_eq_mod n 4
theorem and_7 (n : Nat) : n &&& 7 = n % 8 := Nat.and_two_pow_sub_one_eq_mod n 3
theorem or_64 (a b : Nat) (h : b < 64) : a * 64 ||| b = a * 64 + b := by
  have := Nat.shiftLeft_add_eq_or_of_lt (i := 6) (b := b) (by omega) a
  rw [Nat.shiftLeft_eq] at this
  exact this.symm
theorem or_low {k a b : Nat} (h : b < 2 ^ k) : a * 2 ^ k ||| b = a * 2 ^ k + b := by
  have := Nat.shiftLeft_add_eq_or_of_lt (i := k) (b := b) h a
  rw [Nat.shiftLeft_eq] at this
  exact this.symm
end Go.Proofs.YteekelelcbfekaaDoor

/-! ## Ucd1D -/

namespace Go.Proofs.YteekelelcbfekaaDoor
open Go Go.Ab
def a66 : ACode :=
  (.seq (.reg [⟨(.some 0), (.mv (.k (.slice .none 0 0))), .none⟩]) (.seq (.reg [⟨(.some 1), (.bd [(.int .u8 0), (.int .u8 0), (.int .u8 0), (.int .u8 0), (.int .u8 0), (.int .u8 0), (.int .u8 0)] [(0,
  (1, (.k (.int .u8 9)))), (1, (1, (.k (.int .u8 9))))]), .none⟩, ⟨(.some 2), (.bd [(.int .i32 0), (.int .i32 0), (.int .u8 0), (.int .u8 0), (.int .u8 0), (.int .u8 0), (.int .u8 0), (.int .u8 0),
  (.int .u8 0)] [(0, (1, (.k (.int .i32 0)))), (1, (1, (.k (.int .i32 8)))), (2, (7, (.t 1)))]), .none⟩, ⟨(.some 3), (.bd [(.int .u8 0), (.int .u8 0), (.int .u8 0), (.int .u8 0), (.int .u8 0), (.int .u8
  0), (.int .u8 0)] [(0, (1, (.k (.int .u8 9)))), (1, (1, (.k (.int .u8 11))))]), .none⟩, ⟨(.some 4), (.bd [(.int .i32 0), (.int .i32 0), (.int .u8 0), (.int .u8 0), (.int .u8 0), (.int .u8 0), (.int
  .u8 0), (.int .u8 0), (.int .u8 0)] [(0, (1, (.k (.int .i32 9)))), (1, (1, (.k (.int .i32 9)))), (2, (7, (.t 3)))]), .none⟩, ⟨(.some 5), (.bd [(.int .u8 0), (.int .u8 0), (.int .u8 0), (.int .u8 0),
  (.int .u8 0), (.int .u8 0), (.int .u8 0)] [(0, (1, (.k (.int .u8 9)))), (1, (1, (.k (.int .u8 10))))]), .none⟩, ⟨(.some 6), (.bd [(.int .i32 0), (.int .i32 0), (.int .u8 0), (.int .u8 0), (.int .u8
  0), (.int .u8 0), (.int .u8 0), (.int .u8 0), (.int .u8 0)] [(0, (1, (.k (.int .i32 10)))), (1, (1, (.k (.int .i32 10)))), (2, (7, (.t 5)))]), .none⟩, ⟨(.some 7), (.bd [(.int .u8 0), (.int .u8 0),
  (.int .u8 0), (.int .u8 0), (.int .u8 0), (.int .u8 0), (.int .u8 0)] [(0, (1, (.k (.int .u8 9)))), (1, (1, (.k (.int .u8 11))))]), .none⟩, ⟨(.some 8), (.bd [(.int .i32 0), (.int .i32 0), (.int .u8
  0), (.int .u8 0), (.int .u8 0), (.int .u8 0), (.int .u8 0), (.int .u8 0), (.int .u8 0)] [(0, (1, (.k (.int .i32 11)))), (1, (1, (.k (.int .i32 11)))), (2, (7, (.t 7)))]), .none⟩, ⟨(.some 9), (.bd
  [(.int .u8 0), (.int .u8 0), (.int .u8 0), (.int .u8 0), (.int .u8 0), (.int .u8 0), (.int .u8 0)] [(0, (1, (.k (.int .u8 9)))), (1, (1, (.k (.int .u8 12))))]), .none⟩, ⟨(.some 10), (.bd [(.int .i32
  0), (.int .i32 0), (.int .u8 0), (.int .u8 0), (.int .u8 0), (.int .u8 0), (.int .u8 0), (.int .u8 0), (.int .u8 0)] [(0, (1, (.k (.int .i32 12)))), (1, (1, (.k (.int .i32 12)))), (2, (7, (.t 9)))]),
  .none⟩, ⟨(.some 11), (.bd [(.int .u8 0), (.int .u8 0), (.int .u8 0), (.int .u8 0), (.int .u8 0), (.int .u8 0), (.int .u8 0)] [(0, (1, (.k (.int .u8 9)))), (1, (1, (.k (.int .u8 10))))]), .none⟩,
  ⟨(.some 12), (.bd [(.int .i32 0), (.int .i32 0), (.int .u8 0), (.int .u8 0), (.int .u8 0), (.int .u8 0), (.int .u8 0), (.int .u8 0), (.int .u8 0)] [(0, (1, (.k (.int .i32 13)))), (1, (1, (.k (.int
  .i32 13)))), (2, (7, (.t 11)))]), .none⟩, ⟨(.some 13), (.bd [(.int .u8 0), (.int .u8 0), (.int .u8 0), (.int .u8 0), (.int .u8 0), (.int .u8 0), (.int .u8 0)] [(0, (1, (.k (.int .u8 9)))), (1, (1, (.k
  (.int .u8 9))))]), .none⟩, ⟨(.some 14), (.bd [(.int .i32 0), (.int .i32 0), (.int .u8 0), (.int .u8 0), (.int .u8 0), (.int .u8 0), (.int .u8 0), (.int .u8 0), (.int .u8 0)] [(0, (1, (.k (.int .i32
  14)))), (1, (1, (.k (.int .i32 27)))), (2, (7, (.t 13)))]), .none⟩, ⟨(.some 15), (.bd [(.int .u8 0), (.int .u8 0), (.int .u8 0), (.int .u8 0), (.int .u8 0), (.int .u8 0), (.int .u8 0)] [(0, (1, (.k
  (.int .u8 9)))), (1, (1, (.k (.int .u8 10))))]), .none⟩, ⟨(.some 16), (.bd [(.int .i32 0), (.int .i32 0), (.int .u8 0), (.int .u8 0), (.int .u8 0), (.int .u8 0), (.int .u8 0), (.int .u8 0), (.int .u8
  0)] [(0, (1, (.k (.int .i32 28)))), (1, (1, (.k (.int .i32 30)))), (2, (7, (.t 15)))]), .none⟩, ⟨(.some 17), (.bd [(.int .u8 0), (.int .u8 0), (.int .u8 0), (.int .u8 0), (.int .u8 0), (.int .u8 0),
  (.int .u8 0)] [(0, (1, (.k (.int .u8 9)))), (1, (1, (.k (.int .u8 11))))]), .none⟩, ⟨(.some 18), (.bd [(.int .i32 0), (.int .i32 0), (.int .u8 0), (.int .u8 0), (.int .u8 0), (.int .u8 0), (.int .u8
  0), (.int .u8 0), (.int .u8 0)] [(0, (1, (.k (.int .i32 31)))), (1, (1, (.k (.int .i32 31)))), (2, (7, (.t 17)))]), .none⟩, ⟨(.some 19), (.bd [(.int .u8 0), (.int .u8 0), (.int .u8 0), (.int .u8 0),
  (.int .u8 0), (.int .u8 0), (.int .u8 0)] [(0, (1, (.k (.int .u8 8)))), (1, (1, (.k (.int .u8 12)))), (6, (1, (.k (.int .u8 1))))]), .none⟩, ⟨(.some 20), (.bd [(.int .i32 0), (.int .i32 0), (.int .u8
  0), (.int .u8 0), (.int .u8 0), (.int .u8 0), (.int .u8 0), (.int .u8 0), (.int .u8 0)] [(0, (1, (.k (.int .i32 32)))), (1, (1, (.k (.int .i32 32)))), (2, (7, (.t 19)))]), .none⟩, ⟨(.some 21), (.bd
  [(.int .u8 0), (.int .u8 0), (.int .u8 0), (.int .u8 0), (.int .u8 0), (.int .u8 0), (.int .u8 0)] [(0, (1, (.k (.int .u8 6)))), (1, (1, (.k (.int .u8 13)))), (6, (1, (.k (.int .u8 1))))]), .none⟩,
  ⟨(.some 22), (.bd [(.int .i32 0), (.int .i32 0), (.int .u8 0), (.int .u8 0), (.int .u8 0), (.int .u8 0), (.int .u8 0), (.int .u8 0), (.int .u8 0)] [(0, (1, (.k (.int .i32 33)))), (1, (1, (.k (.int
  .i32 34)))), (2, (7, (.t 21)))]), .none⟩, ⟨(.some 23), (.bd [(.int .u8 0), (.int .u8 0), (.int .u8 0), (.int .u8 0), (.int .u8 0), (.int .u8 0), (.int .u8 0)] [(0, (1, (.k (.int .u8 6)))), (1, (1, (.k
  (.int .u8 5)))), (6, (1, (.k (.int .u8 1))))]), .none⟩, ⟨(.some 24), (.bd [(.int .i32 0), (.int .i32 0), (.int .u8 0), (.int .u8 0), (.int .u8 0), (.int .u8 0), (.int .u8 0), (.int .u8 0), (.int .u8
  0)] [(0, (1, (.k (.int .i32 35)))), (1, (1, (.k (.int .i32 35)))), (2, (7, (.t 23)))]), .none⟩, ⟨(.some 25), (.bd [(.int .u8 0), (.int .u8 0), (.int .u8 0), (.int .u8 0), (.int .u8 0), (.int .u8 0),
  (.int .u8 0)] [(0, (1, (.k (.int .u8 7)))), (1, (1, (.k (.int .u8 5)))), (6, (1, (.k (.int .u8 1))))]), .none⟩, ⟨(.some 26), (.bd [(.int .i32 0), (.int .i32 0), (.int .u8 0), (.int .u8 0), (.int .u8
  0), (.int .u8 0), (.int .u8 0), (.int .u8 0), (.int .u8 0)] [(0, (1, (.k (.int .i32 36)))), (1, (1, (.k (.int .i32 36)))), (2, (7, (.t 25)))]), .none⟩, ⟨(.some 27), (.bd [(.int .u8 0), (.int .u8 0),
  (.int .u8 0), (.int .u8 0), (.int .u8 0), (.int .u8 0), (.int .u8 0)] [(0, (1, (.k (.int .u8 6)))), (1, (1, (.k (.int .u8 5)))), (6, (1, (.k (.int .u8 1))))]), .none⟩, ⟨(.some 28), (.bd [(.int .i32
  0), (.int .i32 0), (.int .u8 0), (.int .u8 0), (.int .u8 0), (.int .u8 0), (.int .u8 0), (.int .u8 0), (.int .u8 0)] [(0, (1, (.k (.int .i32 37)))), (1, (1, (.k (.int .i32 37)))), (2, (7, (.t 27)))]),
  .none⟩, ⟨(.some 29), (.bd [(.int .u8 0), (.int .u8 0), (.int .u8 0), (.int .u8 0), (.int .u8 0), (.int .u8 0), (.int .u8 0)] [(0, (1, (.k (.int .u8 6)))), (1, (1, (.k (.int .u8 13)))), (6, (1, (.k
  (.int .u8 1))))]), .none⟩, ⟨(.some 30), (.bd [(.int .i32 0), (.int .i32 0), (.int .u8 0), (.int .u8 0), (.int .u8 0), (.int .u8 0), (.int .u8 0), (.int .u8 0), (.int .u8 0)] [(0, (1, (.k (.int .i32
  38)))), (1, (1, (.k (.int .i32 42)))), (2, (7, (.t 29)))]), .none⟩, ⟨(.some 31), (.bd [(.int .u8 0), (.int .u8 0), (.int .u8 0), (.int .u8 0), (.int .u8 0), (.int .u8 0), (.int .u8 0)] [(0, (1, (.k
  (.int .u8 7)))), (1, (1, (.k (.int .u8 4)))), (6, (1, (.k (.int .u8 1))))]), .none⟩, ⟨(.some 32), (.bd [(.int .i32 0), (.int .i32 0), (.int .u8 0), (.int .u8 0), (.int .u8 0), (.int .u8 0), (.int .u8
  0), (.int .u8 0), (.int .u8 0)] [(0, (1, (.k (.int .i32 43)))), (1, (1, (.k (.int .i32 43)))), (2, (7, (.t 31)))]), .none⟩, ⟨(.some 33), (.bd [(.int .u8 0), (.int .u8 0), (.int .u8 0), (.int .u8 0),
  (.int .u8 0), (.int .u8 0), (.int .u8 0)] [(0, (1, (.k (.int .u8 6)))), (1, (1, (.k (.int .u8 7)))), (6, (1, (.k (.int .u8 1))))]), .none⟩, ⟨(.some 34), (.bd [(.int .i32 0), (.int .i32 0), (.int .u8
  0), (.int .u8 0), (.int .u8 0), (.int .u8 0), (.int .u8 0), (.int .u8 0), (.int .u8 0)] [(0, (1, (.k (.int .i32 44)))), (1, (1, (.k (.int .i32 44)))), (2, (7, (.t 33)))]), .none⟩, ⟨(.some 35), (.bd
  [(.int .u8 0), (.int .u8 0), (.int .u8 0), (.int .u8 0), (.int .u8 0), (.int .u8 0), (.int .u8 0)] [(0, (1, (.k (.int .u8 6)))), (1, (1, (.k (.int .u8 4)))), (6, (1, (.k (.int .u8 1))))]), .none⟩,
  ⟨(.some 36), (.bd [(.int .i32 0), (.int .i32 0), (.int .u8 0), (.int .u8 0), (.int .u8 0), (.int .u8 0), (.int .u8 0), (.int .u8 0), (.int .u8 0)] [(0, (1, (.k (.int .i32 45)))), (1, (1, (.k (.int
  .i32 45)))), (2, (7, (.t 35)))]), .none⟩, ⟨(.some 37), (.bd [(.int .u8 0), (.int .u8 0), (.int .u8 0), (.int .u8 0), (.int .u8 0), (.int .u8 0), (.int .u8 0)] [(0, (1, (.k (.int .u8 6)))), (1, (1, (.k
  (.int .u8 7)))), (6, (1, (.k (.int .u8 1))))]), .none⟩, ⟨(.some 38), (.bd [(.int .i32 0), (.int .i32 0), (.int .u8 0), (.int .u8 0), (.int .u8 0), (.int .u8 0), (.int .u8 0), (.int .u8 0), (.int .u8
  0)] [(0, (1, (.k (.int .i32 46)))), (1, (1, (.k (.int .i32 47)))), (2, (7, (.t 37)))]), .none⟩, ⟨(.some 39), (.bd [(.int .u8 0), (.int .u8 0), (.int .u8 0), (.int .u8 0), (.int .u8 0), (.int .u8 0),
  (.int .u8 0)] [(0, (1, (.k (.int .u8 5)))), (1, (1, (.k (.int .u8 3)))), (5, (1, (.k (.int .u8 1)))), (6, (1, (.k (.int .u8 1))))]), .none⟩, ⟨(.some 40), (.bd [(.int .i32 0), (.int .i32 0), (.int .u8
  0), (.int .u8 0), (.int .u8 0), (.int .u8 0), (.int .u8 0), (.int .u8 0), (.int .u8 0)] [(0, (1, (.k (.int .i32 48)))), (1, (1, (.k (.int .i32 57)))), (2, (7, (.t 39)))]), .none⟩, ⟨(.some 41), (.bd
  [(.int .u8 0), (.int .u8 0), (.int .u8 0), (.int .u8 0), (.int .u8 0), (.int .u8 0), (.int .u8 0)] [(0, (1, (.k (.int .u8 6)))), (1, (1, (.k (.int .u8 7)))), (6, (1, (.k (.int .u8 1))))]), .none⟩,
  ⟨(.some 42), (.bd [(.int .i32 0), (.int .i32 0), (.int .u8 0), (.int .u8 0), (.int .u8 0), (.int .u8 0), (.int .u8 0), (.int .u8 0), (.int .u8 0)] [(0, (1, (.k (.int .i32 58)))), (1, (1, (.k (.int
  .i32 58)))), (2, (7, (.t 41)))]), .none⟩, ⟨(.some 43), (.bd [(.int .u8 0), (.int .u8 0), (.int .u8 0), (.int .u8 0), (.int .u8 0), (.int .u8 0), (.int .u8 0)] [(0, (1, (.k (.int .u8 6)))), (1, (1, (.k
  (.int .u8 13)))), (6, (1, (.k (.int .u8 1))))]), .none⟩, ⟨(.some 44), (.bd [(.int .i32 0), (.int .i32 0), (.int .u8 0), (.int .u8 0), (.int .u8 0), (.int .u8 0), (.int .u8 0), (.int .u8 0), (.int .u8
  0)] [(0, (1, (.k (.int .i32 59)))), (1, (1, (.k (.int .i32 59)))), (2, (7, (.t 43)))]), .none⟩, ⟨(.some 45), (.bd [(.int .u8 0), (.int .u8 0), (.int .u8 0), (.int .u8 0), (.int .u8 0), (.int .u8 0),
  (.int .u8 0)] [(0, (1, (.k (.int .u8 7)))), (1, (1, (.k (.int .u8 13)))), (6, (1, (.k (.int .u8 1))))]), .none⟩, ⟨(.some 46), (.bd [(.int .i32 0), (.int .i32 0), (.int .u8 0), (.int .u8 0), (.int .u8
  0), (.int .u8 0), (.int .u8 0), (.int .u8 0), (.int .u8 0)] [(0, (1, (.k (.int .i32 60)))), (1, (1, (.k (.int .i32 62)))), (2, (7, (.t 45)))]), .none⟩, ⟨(.some 47), (.bd [(.int .u8 0), (.int .u8 0),
  (.int .u8 0), (.int .u8 0), (.int .u8 0), (.int .u8 0), (.int .u8 0)] [(0, (1, (.k (.int .u8 6)))), (1, (1, (.k (.int .u8 13)))), (6, (1, (.k (.int .u8 1))))]), .none⟩, ⟨(.some 48), (.bd [(.int .i32
  0), (.int .i32 0), (.int .u8 0), (.int .u8 0), (.int .u8 0), (.int .u8 0), (.int .u8 0), (.int .u8 0), (.int .u8 0)] [(0, (1, (.k (.int .i32 63)))), (1, (1, (.k (.int .i32 64)))), (2, (7, (.t 47)))]),
  .none⟩, ⟨(.some 49), (.bd [(.int .u8 0), (.int .u8 0), (.int .u8 0), (.int .u8 0), (.int .u8 0), (.int .u8 0), (.int .u8 0)] [(0, (1, (.k (.int .u8 2)))), (4, (1, (.k (.int .u8 2)))), (6, (1, (.k
  (.int .u8 1))))]), .none⟩, ⟨(.some 50), (.bd [(.int .i32 0), (.int .i32 0), (.int .u8 0), (.int .u8 0), (.int .u8 0), (.int .u8 0), (.int .u8 0), (.int .u8 0), (.int .u8 0)] [(0, (1, (.k (.int .i32
  65)))), (1, (1, (.k (.int .i32 90)))), (2, (7, (.t 49)))]), .none⟩, ⟨(.some 51), (.bd [(.int .u8 0), (.int .u8 0), (.int .u8 0), (.int .u8 0), (.int .u8 0), (.int .u8 0), (.int .u8 0)] [(0, (1, (.k
  (.int .u8 6)))), (1, (1, (.k (.int .u8 13)))), (6, (1, (.k (.int .u8 1))))]), .none⟩, ⟨(.some 52), (.bd [(.int .i32 0), (.int .i32 0), (.int .u8 0), (.int .u8 0), (.int .u8 0), (.int .u8 0), (.int .u8
  0), (.int .u8 0), (.int .u8 0)] [(0, (1, (.k (.int .i32 91)))), (1, (1, (.k (.int .i32 93)))), (2, (7, (.t 51)))]), .none⟩, ⟨(.some 53), (.bd [(.int .u8 0), (.int .u8 0), (.int .u8 0), (.int .u8 0),
  (.int .u8 0), (.int .u8 0), (.int .u8 0)] [(0, (1, (.k (.int .u8 7)))), (1, (1, (.k (.int .u8 13)))), (6, (1, (.k (.int .u8 1))))]), .none⟩, ⟨(.some 54), (.bd [(.int .i32 0), (.int .i32 0), (.int .u8
  0), (.int .u8 0), (.int .u8 0), (.int .u8 0), (.int .u8 0), (.int .u8 0), (.int .u8 0)] [(0, (1, (.k (.int .i32 94)))), (1, (1, (.k (.int .i32 94)))), (2, (7, (.t 53)))]), .none⟩, ⟨(.some 55), (.bd
  [(.int .u8 0), (.int .u8 0), (.int .u8 0), (.int .u8 0), (.int .u8 0), (.int .u8 0), (.int .u8 0)] [(0, (1, (.k (.int .u8 6)))), (1, (1, (.k (.int .u8 13)))), (6, (1, (.k (.int .u8 1))))]), .none⟩,
  ⟨(.some 56), (.bd [(.int .i32 0), (.int .i32 0), (.int .u8 0), (.int .u8 0), (.int .u8 0), (.int .u8 0), (.int .u8 0), (.int .u8 0), (.int .u8 0)] [(0, (1, (.k (.int .i32 95)))), (1, (1, (.k (.int
  .i32 95)))), (2, (7, (.t 55)))]), .none⟩, ⟨(.some 57), (.bd [(.int .u8 0), (.int .u8 0), (.int .u8 0), (.int .u8 0), (.int .u8 0), (.int .u8 0), (.int .u8 0)] [(0, (1, (.k (.int .u8 7)))), (1, (1, (.k
  (.int .u8 13)))), (6, (1, (.k (.int .u8 1))))]), .none⟩, ⟨(.some 58), (.bd [(.int .i32 0), (.int .i32 0), (.int .u8 0), (.int .u8 0), (.int .u8 0), (.int .u8 0), (.int .u8 0), (.int .u8 0), (.int .u8
  0)] [(0, (1, (.k (.int .i32 96)))), (1, (1, (.k (.int .i32 96)))), (2, (7, (.t 57)))]), .none⟩, ⟨(.some 59), (.bd [(.int .u8 0), (.int .u8 0), (.int .u8 0), (.int .u8 0), (.int .u8 0), (.int .u8 0),
  (.int .u8 0)] [(0, (1, (.k (.int .u8 1)))), (4, (1, (.k (.int .u8 2)))), (6, (1, (.k (.int .u8 1))))]), .none⟩, ⟨(.some 60), (.bd [(.int .i32 0), (.int .i32 0), (.int .u8 0), (.int .u8 0), (.int .u8
  0), (.int .u8 0), (.int .u8 0), (.int .u8 0), (.int .u8 0)] [(0, (1, (.k (.int .i32 97)))), (1, (1, (.k (.int .i32 122)))), (2, (7, (.t 59)))]), .none⟩, ⟨(.some 61), (.bd [(.int .u8 0), (.int .u8 0),
  (.int .u8 0), (.int .u8 0), (.int .u8 0), (.int .u8 0), (.int .u8 0)] [(0, (1, (.k (.int .u8 6)))), (1, (1, (.k (.int .u8 13)))), (6, (1, (.k (.int .u8 1))))]), .none⟩, ⟨(.some 62), (.bd [(.int .i32
  0), (.int .i32 0), (.int .u8 0), (.int .u8 0), (.int .u8 0), (.int .u8 0), (.int .u8 0), (.int .u8 0), (.int .u8 0)] [(0, (1, (.k (.int .i32 123)))), (1, (1, (.k (.int .i32 123)))), (2, (7, (.t
  61)))]), .none⟩, ⟨(.some 63), (.bd [(.int .u8 0), (.int .u8 0), (.int .u8 0), (.int .u8 0), (.int .u8 0), (.int .u8 0), (.int .u8 0)] [(0, (1, (.k (.int .u8 7)))), (1, (1, (.k (.int .u8 13)))), (6,
  (1, (.k (.int .u8 1))))]), .none⟩, ⟨(.some 64), (.bd [(.int .i32 0), (.int .i32 0), (.int .u8 0), (.int .u8 0), (.int .u8 0), (.int .u8 0), (.int .u8 0), (.int .u8 0), (.int .u8 0)] [(0, (1, (.k (.int
  .i32 124)))), (1, (1, (.k (.int .i32 124)))), (2, (7, (.t 63)))]), .none⟩, ⟨(.some 65), (.bd [(.int .u8 0), (.int .u8 0), (.int .u8 0), (.int .u8 0), (.int .u8 0), (.int .u8 0), (.int .u8 0)] [(0, (1,
  (.k (.int .u8 6)))), (1, (1, (.k (.int .u8 13)))), (6, (1, (.k (.int .u8 1))))]), .none⟩, ⟨(.some 66), (.bd [(.int .i32 0), (.int .i32 0), (.int .u8 0), (.int .u8 0), (.int .u8 0), (.int .u8 0), (.int
  .u8 0), (.int .u8 0), (.int .u8 0)] [(0, (1, (.k (.int .i32 125)))), (1, (1, (.k (.int .i32 125)))), (2, (7, (.t 65)))]), .none⟩, ⟨(.some 67), (.bd [(.int .u8 0), (.int .u8 0), (.int .u8 0), (.int .u8
  0), (.int .u8 0), (.int .u8 0), (.int .u8 0)] [(0, (1, (.k (.int .u8 7)))), (1, (1, (.k (.int .u8 13)))), (6, (1, (.k (.int .u8 1))))]), .none⟩, ⟨(.some 68), (.bd [(.int .i32 0), (.int .i32 0), (.int
  .u8 0), (.int .u8 0), (.int .u8 0), (.int .u8 0), (.int .u8 0), (.int .u8 0), (.int .u8 0)] [(0, (1, (.k (.int .i32 126)))), (1, (1, (.k (.int .i32 126)))), (2, (7, (.t 67)))]), .none⟩, ⟨(.some 69),
  (.bs 88 9 [(.t 2), (.t 4), (.t 6), (.t 8), (.t 10), (.t 12), (.t 14), (.t 16), (.t 18), (.t 20), (.t 22), (.t 24), (.t 26), (.t 28), (.t 30), (.t 32), (.t 34), (.t 36), (.t 38), (.t 40), (.t 42), (.t
  44), (.t 46), (.t 48), (.t 50), (.t 52), (.t 54), (.t 56), (.t 58), (.t 60), (.t 62), (.t 64), (.t 66), (.t 68)]), .none⟩, ⟨(.some 0), (.mv (.t 69)), .none⟩]) .ret))
theorem c66 : Tryd.f66.body.bind (cCode Tryd.prog 70) = some a66 := by kernel_rfl
theorem r66 : Tryd.f66.results.toList = [(.tmp 0)] := by kernel_rfl
theorem n66 : Tryd.f66.ntmps = 70 := by kernel_rfl
theorem e66 : Enters Tryd.prog 66 := Go.Ab.enters_of Tryd.func66 (by kernel_rfl) (by kernel_rfl)
def a67 : ACode :=
  (.seq (.reg [⟨(.some 0), (.mv (.k (.slice .none 0 0))), .none⟩]) (.seq (.reg [⟨(.some 1), (.bd [(.int .u8 0), (.int .u8 0), (.int .u8 0), (.int .u8 0), (.int .u8 0), (.int .u8 0), (.int .u8 0)] [(0,
  (1, (.k (.int .u8 9)))), (1, (1, (.k (.int .u8 9))))]), .none⟩, ⟨(.some 2), (.bd [(.int .i32 0), (.int .i32 0), (.int .u8 0), (.int .u8 0), (.int .u8 0), (.int .u8 0), (.int .u8 0), (.int .u8 0),
  (.int .u8 0)] [(0, (1, (.k (.int .i32 127)))), (1, (1, (.k (.int .i32 132)))), (2, (7, (.t 1)))]), .none⟩, ⟨(.some 3), (.bd [(.int .u8 0), (.int .u8 0), (.int .u8 0), (.int .u8 0), (.int .u8 0), (.int
  .u8 0), (.int .u8 0)] [(0, (1, (.k (.int .u8 9)))), (1, (1, (.k (.int .u8 10))))]), .none⟩, ⟨(.some 4), (.bd [(.int .i32 0), (.int .i32 0), (.int .u8 0), (.int .u8 0), (.int .u8 0), (.int .u8 0),
  (.int .u8 0), (.int .u8 0), (.int .u8 0)] [(0, (1, (.k (.int .i32 133)))), (1, (1, (.k (.int .i32 133)))), (2, (7, (.t 3)))]), .none⟩, ⟨(.some 5), (.bd [(.int .u8 0), (.int .u8 0), (.int .u8 0), (.int
  .u8 0), (.int .u8 0), (.int .u8 0), (.int .u8 0)] [(0, (1, (.k (.int .u8 9)))), (1, (1, (.k (.int .u8 9))))]), .none⟩, ⟨(.some 6), (.bd [(.int .i32 0), (.int .i32 0), (.int .u8 0), (.int .u8 0), (.int
  .u8 0), (.int .u8 0), (.int .u8 0), (.int .u8 0), (.int .u8 0)] [(0, (1, (.k (.int .i32 134)))), (1, (1, (.k (.int .i32 159)))), (2, (7, (.t 5)))]), .none⟩, ⟨(.some 7), (.bd [(.int .u8 0), (.int .u8
  0), (.int .u8 0), (.int .u8 0), (.int .u8 0), (.int .u8 0), (.int .u8 0)] [(0, (1, (.k (.int .u8 8)))), (1, (1, (.k (.int .u8 7)))), (6, (1, (.k (.int .u8 1))))]), .none⟩, ⟨(.some 8), (.bd [(.int .i32
  0), (.int .i32 0), (.int .u8 0), (.int .u8 0), (.int .u8 0), (.int .u8 0), (.int .u8 0), (.int .u8 0), (.int .u8 0)] [(0, (1, (.k (.int .i32 160)))), (1, (1, (.k (.int .i32 160)))), (2, (7, (.t
  7)))]), .none⟩, ⟨(.some 9), (.bd [(.int .u8 0), (.int .u8 0), (.int .u8 0), (.int .u8 0), (.int .u8 0), (.int .u8 0), (.int .u8 0)] [(0, (1, (.k (.int .u8 7)))), (1, (1, (.k (.int .u8 5)))), (6, (1,
  (.k (.int .u8 1))))]), .none⟩, ⟨(.some 10), (.bd [(.int .i32 0), (.int .i32 0), (.int .u8 0), (.int .u8 0), (.int .u8 0), (.int .u8 0), (.int .u8 0), (.int .u8 0), (.int .u8 0)] [(0, (1, (.k (.int
  .i32 162)))), (1, (1, (.k (.int .i32 165)))), (2, (7, (.t 9)))]), .none⟩, ⟨(.some 11), (.bd [(.int .u8 0), (.int .u8 0), (.int .u8 0), (.int .u8 0), (.int .u8 0), (.int .u8 0), (.int .u8 0)] [(0, (1,
  (.k (.int .u8 6)))), (1, (1, (.k (.int .u8 13)))), (6, (1, (.k (.int .u8 1))))]), .none⟩, ⟨(.some 12), (.bd [(.int .i32 0), (.int .i32 0), (.int .u8 0), (.int .u8 0), (.int .u8 0), (.int .u8 0), (.int
  .u8 0), (.int .u8 0), (.int .u8 0)] [(0, (1, (.k (.int .i32 167)))), (1, (1, (.k (.int .i32 167)))), (2, (7, (.t 11)))]), .none⟩, ⟨(.some 13), (.bd [(.int .u8 0), (.int .u8 0), (.int .u8 0), (.int .u8
  0), (.int .u8 0), (.int .u8 0), (.int .u8 0)] [(0, (1, (.k (.int .u8 6)))), (1, (1, (.k (.int .u8 13)))), (6, (1, (.k (.int .u8 1))))]), .none⟩, ⟨(.some 14), (.bd [(.int .i32 0), (.int .i32 0), (.int
  .u8 0), (.int .u8 0), (.int .u8 0), (.int .u8 0), (.int .u8 0), (.int .u8 0), (.int .u8 0)] [(0, (1, (.k (.int .i32 171)))), (1, (1, (.k (.int .i32 171)))), (2, (7, (.t 13)))]), .none⟩, ⟨(.some 15),
  (.bd [(.int .u8 0), (.int .u8 0), (.int .u8 0), (.int .u8 0), (.int .u8 0), (.int .u8 0), (.int .u8 0)] [(0, (1, (.k (.int .u8 10)))), (1, (1, (.k (.int .u8 9))))]), .none⟩, ⟨(.some 16), (.bd [(.int
  .i32 0), (.int .i32 0), (.int .u8 0), (.int .u8 0), (.int .u8 0), (.int .u8 0), (.int .u8 0), (.int .u8 0), (.int .u8 0)] [(0, (1, (.k (.int .i32 173)))), (1, (1, (.k (.int .i32 173)))), (2, (7, (.t
  15)))]), .none⟩, ⟨(.some 17), (.bd [(.int .u8 0), (.int .u8 0), (.int .u8 0), (.int .u8 0), (.int .u8 0), (.int .u8 0), (.int .u8 0)] [(0, (1, (.k (.int .u8 7)))), (1, (1, (.k (.int .u8 5)))), (6, (1,
  (.k (.int .u8 1))))]), .none⟩, ⟨(.some 18), (.bd [(.int .i32 0), (.int .i32 0), (.int .u8 0), (.int .u8 0), (.int .u8 0), (.int .u8 0), (.int .u8 0), (.int .u8 0), (.int .u8 0)] [(0, (1, (.k (.int
  .i32 176)))), (1, (1, (.k (.int .i32 177)))), (2, (7, (.t 17)))]), .none⟩, ⟨(.some 19), (.bd [(.int .u8 0), (.int .u8 0), (.int .u8 0), (.int .u8 0), (.int .u8 0), (.int .u8 0), (.int .u8 0)] [(0, (1,
  (.k (.int .u8 6)))), (1, (1, (.k (.int .u8 13)))), (6, (1, (.k (.int .u8 1))))]), .none⟩, ⟨(.some 20), (.bd [(.int .i32 0), (.int .i32 0), (.int .u8 0), (.int .u8 0), (.int .u8 0), (.int .u8 0), (.int
  .u8 0), (.int .u8 0), (.int .u8 0)] [(0, (1, (.k (.int .i32 183)))), (1, (1, (.k (.int .i32 183)))), (2, (7, (.t 19)))]), .none⟩, ⟨(.some 21), (.bd [(.int .u8 0), (.int .u8 0), (.int .u8 0), (.int .u8
  0), (.int .u8 0), (.int .u8 0), (.int .u8 0)] [(0, (1, (.k (.int .u8 6)))), (1, (1, (.k (.int .u8 13)))), (6, (1, (.k (.int .u8 1))))]), .none⟩, ⟨(.some 22), (.bd [(.int .i32 0), (.int .i32 0), (.int
  .u8 0), (.int .u8 0), (.int .u8 0), (.int .u8 0), (.int .u8 0), (.int .u8 0), (.int .u8 0)] [(0, (1, (.k (.int .i32 187)))), (1, (1, (.k (.int .i32 187)))), (2, (7, (.t 21)))]), .none⟩, ⟨(.some 23),
  (.bd [(.int .u8 0), (.int .u8 0), (.int .u8 0), (.int .u8 0), (.int .u8 0), (.int .u8 0), (.int .u8 0)] [(0, (1, (.k (.int .u8 2)))), (4, (1, (.k (.int .u8 2)))), (6, (1, (.k (.int .u8 1))))]),
  .none⟩, ⟨(.some 24), (.bd [(.int .i32 0), (.int .i32 0), (.int .u8 0), (.int .u8 0), (.int .u8 0), (.int .u8 0), (.int .u8 0), (.int .u8 0), (.int .u8 0)] [(0, (1, (.k (.int .i32 192)))), (1, (1, (.k
  (.int .i32 214)))), (2, (7, (.t 23)))]), .none⟩, ⟨(.some 25), (.bd [(.int .u8 0), (.int .u8 0), (.int .u8 0), (.int .u8 0), (.int .u8 0), (.int .u8 0), (.int .u8 0)] [(0, (1, (.k (.int .u8 7)))), (1,
  (1, (.k (.int .u8 13)))), (6, (1, (.k (.int .u8 1))))]), .none⟩, ⟨(.some 26), (.bd [(.int .i32 0), (.int .i32 0), (.int .u8 0), (.int .u8 0), (.int .u8 0), (.int .u8 0), (.int .u8 0), (.int .u8 0),
  (.int .u8 0)] [(0, (1, (.k (.int .i32 215)))), (1, (1, (.k (.int .i32 215)))), (2, (7, (.t 25)))]), .none⟩, ⟨(.some 27), (.bd [(.int .u8 0), (.int .u8 0), (.int .u8 0), (.int .u8 0), (.int .u8 0),
  (.int .u8 0), (.int .u8 0)] [(0, (1, (.k (.int .u8 2)))), (4, (1, (.k (.int .u8 2)))), (6, (1, (.k (.int .u8 1))))]), .none⟩, ⟨(.some 28), (.bd [(.int .i32 0), (.int .i32 0), (.int .u8 0), (.int .u8
  0), (.int .u8 0), (.int .u8 0), (.int .u8 0), (.int .u8 0), (.int .u8 0)] [(0, (1, (.k (.int .i32 216)))), (1, (1, (.k (.int .i32 222)))), (2, (7, (.t 27)))]), .none⟩, ⟨(.some 29), (.bd [(.int .u8 0),
  (.int .u8 0), (.int .u8 0), (.int .u8 0), (.int .u8 0), (.int .u8 0), (.int .u8 0)] [(0, (1, (.k (.int .u8 1)))), (4, (1, (.k (.int .u8 2)))), (6, (1, (.k (.int .u8 1))))]), .none⟩, ⟨(.some 30), (.bd
  [(.int .i32 0), (.int .i32 0), (.int .u8 0), (.int .u8 0), (.int .u8 0), (.int .u8 0), (.int .u8 0), (.int .u8 0), (.int .u8 0)] [(0, (1, (.k (.int .i32 223)))), (1, (1, (.k (.int .i32 246)))), (2,
  (7, (.t 29)))]), .none⟩, ⟨(.some 31), (.bd [(.int .u8 0), (.int .u8 0), (.int .u8 0), (.int .u8 0), (.int .u8 0), (.int .u8 0), (.int .u8 0)] [(0, (1, (.k (.int .u8 7)))), (1, (1, (.k (.int .u8
  13)))), (6, (1, (.k (.int .u8 1))))]), .none⟩, ⟨(.some 32), (.bd [(.int .i32 0), (.int .i32 0), (.int .u8 0), (.int .u8 0), (.int .u8 0), (.int .u8 0), (.int .u8 0), (.int .u8 0), (.int .u8 0)] [(0,
  (1, (.k (.int .i32 247)))), (1, (1, (.k (.int .i32 247)))), (2, (7, (.t 31)))]), .none⟩, ⟨(.some 33), (.bd [(.int .u8 0), (.int .u8 0), (.int .u8 0), (.int .u8 0), (.int .u8 0), (.int .u8 0), (.int
  .u8 0)] [(0, (1, (.k (.int .u8 1)))), (4, (1, (.k (.int .u8 2)))), (6, (1, (.k (.int .u8 1))))]), .none⟩, ⟨(.some 34), (.bd [(.int .i32 0), (.int .i32 0), (.int .u8 0), (.int .u8 0), (.int .u8 0),
  (.int .u8 0), (.int .u8 0), (.int .u8 0), (.int .u8 0)] [(0, (1, (.k (.int .i32 248)))), (1, (1, (.k (.int .i32 255)))), (2, (7, (.t 33)))]), .none⟩, ⟨(.some 35), (.bd [(.int .u8 0), (.int .u8 0),
  (.int .u8 0), (.int .u8 0), (.int .u8 0), (.int .u8 0), (.int .u8 0)] [(0, (1, (.k (.int .u8 1)))), (4, (1, (.k (.int .u8 2)))), (6, (1, (.k (.int .u8 1))))]), .none⟩, ⟨(.some 36), (.bd [(.int .i32
  0), (.int .i32 0), (.int .u8 0), (.int .u8 0), (.int .u8 0), (.int .u8 0), (.int .u8 0), (.int .u8 0), (.int .u8 0)] [(0, (1, (.k (.int .i32 305)))), (1, (1, (.k (.int .i32 305)))), (2, (7, (.t
  35)))]), .none⟩, ⟨(.some 37), (.bd [(.int .u8 0), (.int .u8 0), (.int .u8 0), (.int .u8 0), (.int .u8 0), (.int .u8 0), (.int .u8 0)] [(0, (1, (.k (.int .u8 2)))), (4, (1, (.k (.int .u8 2)))), (6, (1,
  (.k (.int .u8 1))))]), .none⟩, ⟨(.some 38), (.bd [(.int .i32 0), (.int .i32 0), (.int .u8 0), (.int .u8 0), (.int .u8 0), (.int .u8 0), (.int .u8 0), (.int .u8 0), (.int .u8 0)] [(0, (1, (.k (.int
  .i32 338)))), (1, (1, (.k (.int .i32 338)))), (2, (7, (.t 37)))]), .none⟩, ⟨(.some 39), (.bd [(.int .u8 0), (.int .u8 0), (.int .u8 0), (.int .u8 0), (.int .u8 0), (.int .u8 0), (.int .u8 0)] [(0, (1,
  (.k (.int .u8 1)))), (4, (1, (.k (.int .u8 2)))), (6, (1, (.k (.int .u8 1))))]), .none⟩, ⟨(.some 40), (.bd [(.int .i32 0), (.int .i32 0), (.int .u8 0), (.int .u8 0), (.int .u8 0), (.int .u8 0), (.int
  .u8 0), (.int .u8 0), (.int .u8 0)] [(0, (1, (.k (.int .i32 339)))), (1, (1, (.k (.int .i32 339)))), (2, (7, (.t 39)))]), .none⟩, ⟨(.some 41), (.bd [(.int .u8 0), (.int .u8 0), (.int .u8 0), (.int .u8
  0), (.int .u8 0), (.int .u8 0), (.int .u8 0)] [(0, (1, (.k (.int .u8 2)))), (4, (1, (.k (.int .u8 2)))), (6, (1, (.k (.int .u8 1))))]), .none⟩, ⟨(.some 42), (.bd [(.int .i32 0), (.int .i32 0), (.int
  .u8 0), (.int .u8 0), (.int .u8 0), (.int .u8 0), (.int .u8 0), (.int .u8 0), (.int .u8 0)] [(0, (1, (.k (.int .i32 471)))), (1, (1, (.k (.int .i32 471)))), (2, (7, (.t 41)))]), .none⟩, ⟨(.some 43),
  (.bd [(.int .u8 0), (.int .u8 0), (.int .u8 0), (.int .u8 0), (.int .u8 0), (.int .u8 0), (.int .u8 0)] [(0, (1, (.k (.int .u8 1)))), (4, (1, (.k (.int .u8 2)))), (6, (1, (.k (.int .u8 1))))]),
  .none⟩, ⟨(.some 44), (.bd [(.int .i32 0), (.int .i32 0), (.int .u8 0), (.int .u8 0), (.int .u8 0), (.int .u8 0), (.int .u8 0), (.int .u8 0), (.int .u8 0)] [(0, (1, (.k (.int .i32 472)))), (1, (1, (.k
  (.int .i32 472)))), (2, (7, (.t 43)))]), .none⟩, ⟨(.some 45), (.bd [(.int .u8 0), (.int .u8 0), (.int .u8 0), (.int .u8 0), (.int .u8 0), (.int .u8 0), (.int .u8 0)] [(0, (1, (.k (.int .u8 4)))), (1,
  (1, (.k (.int .u8 8)))), (2, (1, (.k (.int .u8 2)))), (3, (1, (.k (.int .u8 230)))), (4, (1, (.k (.int .u8 1))))]), .none⟩, ⟨(.some 46), (.bd [(.int .i32 0), (.int .i32 0), (.int .u8 0), (.int .u8 0),
  (.int .u8 0), (.int .u8 0), (.int .u8 0), (.int .u8 0), (.int .u8 0)] [(0, (1, (.k (.int .i32 768)))), (1, (1, (.k (.int .i32 788)))), (2, (7, (.t 45)))]), .none⟩, ⟨(.some 47), (.bd [(.int .u8 0),
  (.int .u8 0), (.int .u8 0), (.int .u8 0), (.int .u8 0), (.int .u8 0), (.int .u8 0)] [(0, (1, (.k (.int .u8 4)))), (1, (1, (.k (.int .u8 8)))), (2, (1, (.k (.int .u8 2)))), (3, (1, (.k (.int .u8
  220)))), (4, (1, (.k (.int .u8 1))))]), .none⟩, ⟨(.some 48), (.bd [(.int .i32 0), (.int .i32 0), (.int .u8 0), (.int .u8 0), (.int .u8 0), (.int .u8 0), (.int .u8 0), (.int .u8 0), (.int .u8 0)] [(0,
  (1, (.k (.int .i32 803)))), (1, (1, (.k (.int .i32 806)))), (2, (7, (.t 47)))]), .none⟩, ⟨(.some 49), (.bd [(.int .u8 0), (.int .u8 0), (.int .u8 0), (.int .u8 0), (.int .u8 0), (.int .u8 0), (.int
  .u8 0)] [(0, (1, (.k (.int .u8 4)))), (1, (1, (.k (.int .u8 8)))), (2, (1, (.k (.int .u8 2)))), (3, (1, (.k (.int .u8 202)))), (4, (1, (.k (.int .u8 1))))]), .none⟩, ⟨(.some 50), (.bd [(.int .i32 0),
  (.int .i32 0), (.int .u8 0), (.int .u8 0), (.int .u8 0), (.int .u8 0), (.int .u8 0), (.int .u8 0), (.int .u8 0)] [(0, (1, (.k (.int .i32 807)))), (1, (1, (.k (.int .i32 808)))), (2, (7, (.t 49)))]),
  .none⟩, ⟨(.some 51), (.bd [(.int .u8 0), (.int .u8 0), (.int .u8 0), (.int .u8 0), (.int .u8 0), (.int .u8 0), (.int .u8 0)] [(0, (1, (.k (.int .u8 4)))), (1, (1, (.k (.int .u8 8)))), (2, (1, (.k
  (.int .u8 2)))), (3, (1, (.k (.int .u8 1)))), (4, (1, (.k (.int .u8 1))))]), .none⟩, ⟨(.some 52), (.bd [(.int .i32 0), (.int .i32 0), (.int .u8 0), (.int .u8 0), (.int .u8 0), (.int .u8 0), (.int .u8
  0), (.int .u8 0), (.int .u8 0)] [(0, (1, (.k (.int .i32 820)))), (1, (1, (.k (.int .i32 824)))), (2, (7, (.t 51)))]), .none⟩, ⟨(.some 53), (.bd [(.int .u8 0), (.int .u8 0), (.int .u8 0), (.int .u8 0),
  (.int .u8 0), (.int .u8 0), (.int .u8 0)] [(0, (1, (.k (.int .u8 7)))), (1, (1, (.k (.int .u8 13)))), (4, (1, (.k (.int .u8 3)))), (6, (1, (.k (.int .u8 1))))]), .none⟩, ⟨(.some 54), (.bd [(.int .i32
  0), (.int .i32 0), (.int .u8 0), (.int .u8 0), (.int .u8 0), (.int .u8 0), (.int .u8 0), (.int .u8 0), (.int .u8 0)] [(0, (1, (.k (.int .i32 885)))), (1, (1, (.k (.int .i32 885)))), (2, (7, (.t
  53)))]), .none⟩, ⟨(.some 55), (.bd [(.int .u8 0), (.int .u8 0), (.int .u8 0), (.int .u8 0), (.int .u8 0), (.int .u8 0), (.int .u8 0)] [(0, (1, (.k (.int .u8 2)))), (4, (1, (.k (.int .u8 3)))), (6, (1,
  (.k (.int .u8 1))))]), .none⟩, ⟨(.some 56), (.bd [(.int .i32 0), (.int .i32 0), (.int .u8 0), (.int .u8 0), (.int .u8 0), (.int .u8 0), (.int .u8 0), (.int .u8 0), (.int .u8 0)] [(0, (1, (.k (.int
  .i32 902)))), (1, (1, (.k (.int .i32 902)))), (2, (7, (.t 55)))]), .none⟩, ⟨(.some 57), (.bd [(.int .u8 0), (.int .u8 0), (.int .u8 0), (.int .u8 0), (.int .u8 0), (.int .u8 0), (.int .u8 0)] [(0, (1,
  (.k (.int .u8 2)))), (4, (1, (.k (.int .u8 3)))), (6, (1, (.k (.int .u8 1))))]), .none⟩, ⟨(.some 58), (.bd [(.int .i32 0), (.int .i32 0), (.int .u8 0), (.int .u8 0), (.int .u8 0), (.int .u8 0), (.int
  .u8 0), (.int .u8 0), (.int .u8 0)] [(0, (1, (.k (.int .i32 904)))), (1, (1, (.k (.int .i32 906)))), (2, (7, (.t 57)))]), .none⟩, ⟨(.some 59), (.bd [(.int .u8 0), (.int .u8 0), (.int .u8 0), (.int .u8
  0), (.int .u8 0), (.int .u8 0), (.int .u8 0)] [(0, (1, (.k (.int .u8 2)))), (4, (1, (.k (.int .u8 3)))), (6, (1, (.k (.int .u8 1))))]), .none⟩, ⟨(.some 60), (.bd [(.int .i32 0), (.int .i32 0), (.int
  .u8 0), (.int .u8 0), (.int .u8 0), (.int .u8 0), (.int .u8 0), (.int .u8 0), (.int .u8 0)] [(0, (1, (.k (.int .i32 913)))), (1, (1, (.k (.int .i32 929)))), (2, (7, (.t 59)))]), .none⟩, ⟨(.some 61),
  (.bd [(.int .u8 0), (.int .u8 0), (.int .u8 0), (.int .u8 0), (.int .u8 0), (.int .u8 0), (.int .u8 0)] [(0, (1, (.k (.int .u8 2)))), (4, (1, (.k (.int .u8 3)))), (6, (1, (.k (.int .u8 1))))]),
  .none⟩, ⟨(.some 62), (.bd [(.int .i32 0), (.int .i32 0), (.int .u8 0), (.int .u8 0), (.int .u8 0), (.int .u8 0), (.int .u8 0), (.int .u8 0), (.int .u8 0)] [(0, (1, (.k (.int .i32 931)))), (1, (1, (.k
  (.int .i32 937)))), (2, (7, (.t 61)))]), .none⟩, ⟨(.some 63), (.bd [(.int .u8 0), (.int .u8 0), (.int .u8 0), (.int .u8 0), (.int .u8 0), (.int .u8 0), (.int .u8 0)] [(0, (1, (.k (.int .u8 1)))), (4,
  (1, (.k (.int .u8 3)))), (6, (1, (.k (.int .u8 1))))]), .none⟩, ⟨(.some 64), (.bd [(.int .i32 0), (.int .i32 0), (.int .u8 0), (.int .u8 0), (.int .u8 0), (.int .u8 0), (.int .u8 0), (.int .u8 0),
  (.int .u8 0)] [(0, (1, (.k (.int .i32 940)))), (1, (1, (.k (.int .i32 943)))), (2, (7, (.t 63)))]), .none⟩, ⟨(.some 65), (.bd [(.int .u8 0), (.int .u8 0), (.int .u8 0), (.int .u8 0), (.int .u8 0),
  (.int .u8 0), (.int .u8 0)] [(0, (1, (.k (.int .u8 1)))), (4, (1, (.k (.int .u8 3)))), (6, (1, (.k (.int .u8 1))))]), .none⟩, ⟨(.some 66), (.bd [(.int .i32 0), (.int .i32 0), (.int .u8 0), (.int .u8
  0), (.int .u8 0), (.int .u8 0), (.int .u8 0), (.int .u8 0), (.int .u8 0)] [(0, (1, (.k (.int .i32 945)))), (1, (1, (.k (.int .i32 969)))), (2, (7, (.t 65)))]), .none⟩, ⟨(.some 67), (.bd [(.int .u8 0),
  (.int .u8 0), (.int .u8 0), (.int .u8 0), (.int .u8 0), (.int .u8 0), (.int .u8 0)] [(0, (1, (.k (.int .u8 2)))), (4, (1, (.k (.int .u8 4)))), (6, (1, (.k (.int .u8 1))))]), .none⟩, ⟨(.some 68), (.bd
  [(.int .i32 0), (.int .i32 0), (.int .u8 0), (.int .u8 0), (.int .u8 0), (.int .u8 0), (.int .u8 0), (.int .u8 0), (.int .u8 0)] [(0, (1, (.k (.int .i32 1025)))), (1, (1, (.k (.int .i32 1025)))), (2,
  (7, (.t 67)))]), .none⟩, ⟨(.some 69), (.bs 88 9 [(.t 2), (.t 4), (.t 6), (.t 8), (.t 10), (.t 12), (.t 14), (.t 16), (.t 18), (.t 20), (.t 22), (.t 24), (.t 26), (.t 28), (.t 30), (.t 32), (.t 34),
  (.t 36), (.t 38), (.t 40), (.t 42), (.t 44), (.t 46), (.t 48), (.t 50), (.t 52), (.t 54), (.t 56), (.t 58), (.t 60), (.t 62), (.t 64), (.t 66), (.t 68)]), .none⟩, ⟨(.some 0), (.mv (.t 69)), .none⟩])
  .ret))
theorem c67 : Tryd.f67.body.bind (cCode Tryd.prog 70) = some a67 := by kernel_rfl
theorem r67 : Tryd.f67.results.toList = [(.tmp 0)] := by kernel_rfl
theorem n67 : Tryd.f67.ntmps = 70 := by kernel_rfl
theorem e67 : Enters Tryd.prog 67 := Go.Ab.enters_of Tryd.func67 (by kernel_rfl) (by kernel_rfl)
def a68 : ACode :=
  (.seq (.reg [⟨(.some 0), (.mv (.k (.slice .none 0 0))), .none⟩]) (.seq (.reg [⟨(.some 1), (.bd [(.int .u8 0), (.int .u8 0), (.int .u8 0), (.int .u8 0), (.int .u8 0), (.int .u8 0), (.int .u8 0)] [(0,
  (1, (.k (.int .u8 2)))), (4, (1, (.k (.int .u8 4)))), (6, (1, (.k (.int .u8 1))))]), .none⟩, ⟨(.some 2), (.bd [(.int .i32 0), (.int .i32 0), (.int .u8 0), (.int .u8 0), (.int .u8 0), (.int .u8 0),
  (.int .u8 0), (.int .u8 0), (.int .u8 0)] [(0, (1, (.k (.int .i32 1030)))), (1, (1, (.k (.int .i32 1030)))), (2, (7, (.t 1)))]), .none⟩, ⟨(.some 3), (.bd [(.int .u8 0), (.int .u8 0), (.int .u8 0),
  (.int .u8 0), (.int .u8 0), (.int .u8 0), (.int .u8 0)] [(0, (1, (.k (.int .u8 2)))), (4, (1, (.k (.int .u8 4)))), (6, (1, (.k (.int .u8 1))))]), .none⟩, ⟨(.some 4), (.bd [(.int .i32 0), (.int .i32
  0), (.int .u8 0), (.int .u8 0), (.int .u8 0), (.int .u8 0), (.int .u8 0), (.int .u8 0), (.int .u8 0)] [(0, (1, (.k (.int .i32 1040)))), (1, (1, (.k (.int .i32 1071)))), (2, (7, (.t 3)))]), .none⟩,
  ⟨(.some 5), (.bd [(.int .u8 0), (.int .u8 0), (.int .u8 0), (.int .u8 0), (.int .u8 0), (.int .u8 0), (.int .u8 0)] [(0, (1, (.k (.int .u8 1)))), (4, (1, (.k (.int .u8 4)))), (6, (1, (.k (.int .u8
  1))))]), .none⟩, ⟨(.some 6), (.bd [(.int .i32 0), (.int .i32 0), (.int .u8 0), (.int .u8 0), (.int .u8 0), (.int .u8 0), (.int .u8 0), (.int .u8 0), (.int .u8 0)] [(0, (1, (.k (.int .i32 1072)))), (1,
  (1, (.k (.int .i32 1103)))), (2, (7, (.t 5)))]), .none⟩, ⟨(.some 7), (.bd [(.int .u8 0), (.int .u8 0), (.int .u8 0), (.int .u8 0), (.int .u8 0), (.int .u8 0), (.int .u8 0)] [(0, (1, (.k (.int .u8
  1)))), (4, (1, (.k (.int .u8 4)))), (6, (1, (.k (.int .u8 1))))]), .none⟩, ⟨(.some 8), (.bd [(.int .i32 0), (.int .i32 0), (.int .u8 0), (.int .u8 0), (.int .u8 0), (.int .u8 0), (.int .u8 0), (.int
  .u8 0), (.int .u8 0)] [(0, (1, (.k (.int .i32 1105)))), (1, (1, (.k (.int .i32 1105)))), (2, (7, (.t 7)))]), .none⟩, ⟨(.some 9), (.bd [(.int .u8 0), (.int .u8 0), (.int .u8 0), (.int .u8 0), (.int .u8
  0), (.int .u8 0), (.int .u8 0)] [(0, (1, (.k (.int .u8 1)))), (4, (1, (.k (.int .u8 4)))), (6, (1, (.k (.int .u8 1))))]), .none⟩, ⟨(.some 10), (.bd [(.int .i32 0), (.int .i32 0), (.int .u8 0), (.int
  .u8 0), (.int .u8 0), (.int .u8 0), (.int .u8 0), (.int .u8 0), (.int .u8 0)] [(0, (1, (.k (.int .i32 1110)))), (1, (1, (.k (.int .i32 1110)))), (2, (7, (.t 9)))]), .none⟩, ⟨(.some 11), (.bd [(.int
  .u8 0), (.int .u8 0), (.int .u8 0), (.int .u8 0), (.int .u8 0), (.int .u8 0), (.int .u8 0)] [(0, (1, (.k (.int .u8 4)))), (1, (1, (.k (.int .u8 8)))), (2, (1, (.k (.int .u8 2)))), (3, (1, (.k (.int
  .u8 14)))), (4, (1, (.k (.int .u8 5))))]), .none⟩, ⟨(.some 12), (.bd [(.int .i32 0), (.int .i32 0), (.int .u8 0), (.int .u8 0), (.int .u8 0), (.int .u8 0), (.int .u8 0), (.int .u8 0), (.int .u8 0)]
  [(0, (1, (.k (.int .i32 1460)))), (1, (1, (.k (.int .i32 1460)))), (2, (7, (.t 11)))]), .none⟩, ⟨(.some 13), (.bd [(.int .u8 0), (.int .u8 0), (.int .u8 0), (.int .u8 0), (.int .u8 0), (.int .u8 0),
  (.int .u8 0)] [(0, (1, (.k (.int .u8 4)))), (1, (1, (.k (.int .u8 8)))), (2, (1, (.k (.int .u8 2)))), (3, (1, (.k (.int .u8 17)))), (4, (1, (.k (.int .u8 5))))]), .none⟩, ⟨(.some 14), (.bd [(.int .i32
  0), (.int .i32 0), (.int .u8 0), (.int .u8 0), (.int .u8 0), (.int .u8 0), (.int .u8 0), (.int .u8 0), (.int .u8 0)] [(0, (1, (.k (.int .i32 1463)))), (1, (1, (.k (.int .i32 1463)))), (2, (7, (.t
  13)))]), .none⟩, ⟨(.some 15), (.bd [(.int .u8 0), (.int .u8 0), (.int .u8 0), (.int .u8 0), (.int .u8 0), (.int .u8 0), (.int .u8 0)] [(0, (1, (.k (.int .u8 4)))), (1, (1, (.k (.int .u8 8)))), (2, (1,
  (.k (.int .u8 2)))), (3, (1, (.k (.int .u8 21)))), (4, (1, (.k (.int .u8 5))))]), .none⟩, ⟨(.some 16), (.bd [(.int .i32 0), (.int .i32 0), (.int .u8 0), (.int .u8 0), (.int .u8 0), (.int .u8 0), (.int
  .u8 0), (.int .u8 0), (.int .u8 0)] [(0, (1, (.k (.int .i32 1468)))), (1, (1, (.k (.int .i32 1468)))), (2, (7, (.t 15)))]), .none⟩, ⟨(.some 17), (.bd [(.int .u8 0), (.int .u8 0), (.int .u8 0), (.int
  .u8 0), (.int .u8 0), (.int .u8 0), (.int .u8 0)] [(0, (1, (.k (.int .u8 6)))), (1, (1, (.k (.int .u8 1)))), (4, (1, (.k (.int .u8 5)))), (6, (1, (.k (.int .u8 1))))]), .none⟩, ⟨(.some 18), (.bd
  [(.int .i32 0), (.int .i32 0), (.int .u8 0), (.int .u8 0), (.int .u8 0), (.int .u8 0), (.int .u8 0), (.int .u8 0), (.int .u8 0)] [(0, (1, (.k (.int .i32 1470)))), (1, (1, (.k (.int .i32 1470)))), (2,
  (7, (.t 17)))]), .none⟩, ⟨(.some 19), (.bd [(.int .u8 0), (.int .u8 0), (.int .u8 0), (.int .u8 0), (.int .u8 0), (.int .u8 0), (.int .u8 0)] [(0, (1, (.k (.int .u8 3)))), (1, (1, (.k (.int .u8 1)))),
  (4, (1, (.k (.int .u8 5)))), (6, (1, (.k (.int .u8 1))))]), .none⟩, ⟨(.some 20), (.bd [(.int .i32 0), (.int .i32 0), (.int .u8 0), (.int .u8 0), (.int .u8 0), (.int .u8 0), (.int .u8 0), (.int .u8 0),
  (.int .u8 0)] [(0, (1, (.k (.int .i32 1488)))), (1, (1, (.k (.int .i32 1514)))), (2, (7, (.t 19)))]), .none⟩, ⟨(.some 21), (.bd [(.int .u8 0), (.int .u8 0), (.int .u8 0), (.int .u8 0), (.int .u8 0),
  (.int .u8 0), (.int .u8 0)] [(0, (1, (.k (.int .u8 6)))), (1, (1, (.k (.int .u8 1)))), (4, (1, (.k (.int .u8 5)))), (6, (1, (.k (.int .u8 1))))]), .none⟩, ⟨(.some 22), (.bd [(.int .i32 0), (.int .i32
  0), (.int .u8 0), (.int .u8 0), (.int .u8 0), (.int .u8 0), (.int .u8 0), (.int .u8 0), (.int .u8 0)] [(0, (1, (.k (.int .i32 1523)))), (1, (1, (.k (.int .i32 1524)))), (2, (7, (.t 21)))]), .none⟩,
  ⟨(.some 23), (.bd [(.int .u8 0), (.int .u8 0), (.int .u8 0), (.int .u8 0), (.int .u8 0), (.int .u8 0), (.int .u8 0)] [(0, (1, (.k (.int .u8 6)))), (1, (1, (.k (.int .u8 7)))), (6, (1, (.k (.int .u8
  1))))]), .none⟩, ⟨(.some 24), (.bd [(.int .i32 0), (.int .i32 0), (.int .u8 0), (.int .u8 0), (.int .u8 0), (.int .u8 0), (.int .u8 0), (.int .u8 0), (.int .u8 0)] [(0, (1, (.k (.int .i32 1548)))),
  (1, (1, (.k (.int .i32 1548)))), (2, (7, (.t 23)))]), .none⟩, ⟨(.some 25), (.bd [(.int .u8 0), (.int .u8 0), (.int .u8 0), (.int .u8 0), (.int .u8 0), (.int .u8 0), (.int .u8 0)] [(0, (1, (.k (.int
  .u8 6)))), (1, (1, (.k (.int .u8 2)))), (6, (1, (.k (.int .u8 1))))]), .none⟩, ⟨(.some 26), (.bd [(.int .i32 0), (.int .i32 0), (.int .u8 0), (.int .u8 0), (.int .u8 0), (.int .u8 0), (.int .u8 0),
  (.int .u8 0), (.int .u8 0)] [(0, (1, (.k (.int .i32 1563)))), (1, (1, (.k (.int .i32 1563)))), (2, (7, (.t 25)))]), .none⟩, ⟨(.some 27), (.bd [(.int .u8 0), (.int .u8 0), (.int .u8 0), (.int .u8 0),
  (.int .u8 0), (.int .u8 0), (.int .u8 0)] [(0, (1, (.k (.int .u8 10)))), (1, (1, (.k (.int .u8 2)))), (2, (1, (.k (.int .u8 2)))), (4, (1, (.k (.int .u8 6))))]), .none⟩, ⟨(.some 28), (.bd [(.int .i32
  0), (.int .i32 0), (.int .u8 0), (.int .u8 0), (.int .u8 0), (.int .u8 0), (.int .u8 0), (.int .u8 0), (.int .u8 0)] [(0, (1, (.k (.int .i32 1564)))), (1, (1, (.k (.int .i32 1564)))), (2, (7, (.t
  27)))]), .none⟩, ⟨(.some 29), (.bd [(.int .u8 0), (.int .u8 0), (.int .u8 0), (.int .u8 0), (.int .u8 0), (.int .u8 0), (.int .u8 0)] [(0, (1, (.k (.int .u8 6)))), (1, (1, (.k (.int .u8 2)))), (6, (1,
  (.k (.int .u8 1))))]), .none⟩, ⟨(.some 30), (.bd [(.int .i32 0), (.int .i32 0), (.int .u8 0), (.int .u8 0), (.int .u8 0), (.int .u8 0), (.int .u8 0), (.int .u8 0), (.int .u8 0)] [(0, (1, (.k (.int
  .i32 1567)))), (1, (1, (.k (.int .i32 1567)))), (2, (7, (.t 29)))]), .none⟩, ⟨(.some 31), (.bd [(.int .u8 0), (.int .u8 0), (.int .u8 0), (.int .u8 0), (.int .u8 0), (.int .u8 0), (.int .u8 0)] [(0,
  (1, (.k (.int .u8 3)))), (1, (1, (.k (.int .u8 2)))), (4, (1, (.k (.int .u8 6)))), (6, (1, (.k (.int .u8 1))))]), .none⟩, ⟨(.some 32), (.bd [(.int .i32 0), (.int .i32 0), (.int .u8 0), (.int .u8 0),
  (.int .u8 0), (.int .u8 0), (.int .u8 0), (.int .u8 0), (.int .u8 0)] [(0, (1, (.k (.int .i32 1569)))), (1, (1, (.k (.int .i32 1569)))), (2, (7, (.t 31)))]), .none⟩, ⟨(.some 33), (.bd [(.int .u8 0),
  (.int .u8 0), (.int .u8 0), (.int .u8 0), (.int .u8 0), (.int .u8 0), (.int .u8 0)] [(0, (1, (.k (.int .u8 3)))), (1, (1, (.k (.int .u8 2)))), (2, (1, (.k (.int .u8 5)))), (4, (1, (.k (.int .u8 6)))),
  (6, (1, (.k (.int .u8 1))))]), .none⟩, ⟨(.some 34), (.bd [(.int .i32 0), (.int .i32 0), (.int .u8 0), (.int .u8 0), (.int .u8 0), (.int .u8 0), (.int .u8 0), (.int .u8 0), (.int .u8 0)] [(0, (1, (.k
  (.int .i32 1570)))), (1, (1, (.k (.int .i32 1573)))), (2, (7, (.t 33)))]), .none⟩, ⟨(.some 35), (.bd [(.int .u8 0), (.int .u8 0), (.int .u8 0), (.int .u8 0), (.int .u8 0), (.int .u8 0), (.int .u8 0)]
  [(0, (1, (.k (.int .u8 3)))), (1, (1, (.k (.int .u8 2)))), (2, (1, (.k (.int .u8 3)))), (4, (1, (.k (.int .u8 6)))), (6, (1, (.k (.int .u8 1))))]), .none⟩, ⟨(.some 36), (.bd [(.int .i32 0), (.int .i32
  0), (.int .u8 0), (.int .u8 0), (.int .u8 0), (.int .u8 0), (.int .u8 0), (.int .u8 0), (.int .u8 0)] [(0, (1, (.k (.int .i32 1574)))), (1, (1, (.k (.int .i32 1574)))), (2, (7, (.t 35)))]), .none⟩,
  ⟨(.some 37), (.bd [(.int .u8 0), (.int .u8 0), (.int .u8 0), (.int .u8 0), (.int .u8 0), (.int .u8 0), (.int .u8 0)] [(0, (1, (.k (.int .u8 3)))), (1, (1, (.k (.int .u8 2)))), (2, (1, (.k (.int .u8
  5)))), (4, (1, (.k (.int .u8 6)))), (6, (1, (.k (.int .u8 1))))]), .none⟩, ⟨(.some 38), (.bd [(.int .i32 0), (.int .i32 0), (.int .u8 0), (.int .u8 0), (.int .u8 0), (.int .u8 0), (.int .u8 0), (.int
  .u8 0), (.int .u8 0)] [(0, (1, (.k (.int .i32 1575)))), (1, (1, (.k (.int .i32 1575)))), (2, (7, (.t 37)))]), .none⟩, ⟨(.some 39), (.bd [(.int .u8 0), (.int .u8 0), (.int .u8 0), (.int .u8 0), (.int
  .u8 0), (.int .u8 0), (.int .u8 0)] [(0, (1, (.k (.int .u8 3)))), (1, (1, (.k (.int .u8 2)))), (2, (1, (.k (.int .u8 3)))), (4, (1, (.k (.int .u8 6)))), (6, (1, (.k (.int .u8 1))))]), .none⟩, ⟨(.some
  40), (.bd [(.int .i32 0), (.int .i32 0), (.int .u8 0), (.int .u8 0), (.int .u8 0), (.int .u8 0), (.int .u8 0), (.int .u8 0), (.int .u8 0)] [(0, (1, (.k (.int .i32 1576)))), (1, (1, (.k (.int .i32
  1576)))), (2, (7, (.t 39)))]), .none⟩, ⟨(.some 41), (.bd [(.int .u8 0), (.int .u8 0), (.int .u8 0), (.int .u8 0), (.int .u8 0), (.int .u8 0), (.int .u8 0)] [(0, (1, (.k (.int .u8 3)))), (1, (1, (.k
  (.int .u8 2)))), (2, (1, (.k (.int .u8 5)))), (4, (1, (.k (.int .u8 6)))), (6, (1, (.k (.int .u8 1))))]), .none⟩, ⟨(.some 42), (.bd [(.int .i32 0), (.int .i32 0), (.int .u8 0), (.int .u8 0), (.int .u8
  0), (.int .u8 0), (.int .u8 0), (.int .u8 0), (.int .u8 0)] [(0, (1, (.k (.int .i32 1577)))), (1, (1, (.k (.int .i32 1577)))), (2, (7, (.t 41)))]), .none⟩, ⟨(.some 43), (.bd [(.int .u8 0), (.int .u8
  0), (.int .u8 0), (.int .u8 0), (.int .u8 0), (.int .u8 0), (.int .u8 0)] [(0, (1, (.k (.int .u8 3)))), (1, (1, (.k (.int .u8 2)))), (2, (1, (.k (.int .u8 3)))), (4, (1, (.k (.int .u8 6)))), (6, (1,
  (.k (.int .u8 1))))]), .none⟩, ⟨(.some 44), (.bd [(.int .i32 0), (.int .i32 0), (.int .u8 0), (.int .u8 0), (.int .u8 0), (.int .u8 0), (.int .u8 0), (.int .u8 0), (.int .u8 0)] [(0, (1, (.k (.int
  .i32 1578)))), (1, (1, (.k (.int .i32 1582)))), (2, (7, (.t 43)))]), .none⟩, ⟨(.some 45), (.bd [(.int .u8 0), (.int .u8 0), (.int .u8 0), (.int .u8 0), (.int .u8 0), (.int .u8 0), (.int .u8 0)] [(0,
  (1, (.k (.int .u8 3)))), (1, (1, (.k (.int .u8 2)))), (2, (1, (.k (.int .u8 5)))), (4, (1, (.k (.int .u8 6)))), (6, (1, (.k (.int .u8 1))))]), .none⟩, ⟨(.some 46), (.bd [(.int .i32 0), (.int .i32 0),
  (.int .u8 0), (.int .u8 0), (.int .u8 0), (.int .u8 0), (.int .u8 0), (.int .u8 0), (.int .u8 0)] [(0, (1, (.k (.int .i32 1583)))), (1, (1, (.k (.int .i32 1586)))), (2, (7, (.t 45)))]), .none⟩,
  ⟨(.some 47), (.bd [(.int .u8 0), (.int .u8 0), (.int .u8 0), (.int .u8 0), (.int .u8 0), (.int .u8 0), (.int .u8 0)] [(0, (1, (.k (.int .u8 3)))), (1, (1, (.k (.int .u8 2)))), (2, (1, (.k (.int .u8
  3)))), (4, (1, (.k (.int .u8 6)))), (6, (1, (.k (.int .u8 1))))]), .none⟩, ⟨(.some 48), (.bd [(.int .i32 0), (.int .i32 0), (.int .u8 0), (.int .u8 0), (.int .u8 0), (.int .u8 0), (.int .u8 0), (.int
  .u8 0), (.int .u8 0)] [(0, (1, (.k (.int .i32 1587)))), (1, (1, (.k (.int .i32 1594)))), (2, (7, (.t 47)))]), .none⟩, ⟨(.some 49), (.bd [(.int .u8 0), (.int .u8 0), (.int .u8 0), (.int .u8 0), (.int
  .u8 0), (.int .u8 0), (.int .u8 0)] [(0, (1, (.k (.int .u8 3)))), (1, (1, (.k (.int .u8 2)))), (2, (1, (.k (.int .u8 1)))), (6, (1, (.k (.int .u8 1))))]), .none⟩, ⟨(.some 50), (.bd [(.int .i32 0),
  (.int .i32 0), (.int .u8 0), (.int .u8 0), (.int .u8 0), (.int .u8 0), (.int .u8 0), (.int .u8 0), (.int .u8 0)] [(0, (1, (.k (.int .i32 1600)))), (1, (1, (.k (.int .i32 1600)))), (2, (7, (.t 49)))]),
  .none⟩, ⟨(.some 51), (.bd [(.int .u8 0), (.int .u8 0), (.int .u8 0), (.int .u8 0), (.int .u8 0), (.int .u8 0), (.int .u8 0)] [(0, (1, (.k (.int .u8 3)))), (1, (1, (.k (.int .u8 2)))), (2, (1, (.k
  (.int .u8 3)))), (4, (1, (.k (.int .u8 6)))), (6, (1, (.k (.int .u8 1))))]), .none⟩, ⟨(.some 52), (.bd [(.int .i32 0), (.int .i32 0), (.int .u8 0), (.int .u8 0), (.int .u8 0), (.int .u8 0), (.int .u8
  0), (.int .u8 0), (.int .u8 0)] [(0, (1, (.k (.int .i32 1601)))), (1, (1, (.k (.int .i32 1607)))), (2, (7, (.t 51)))]), .none⟩, ⟨(.some 53), (.bd [(.int .u8 0), (.int .u8 0), (.int .u8 0), (.int .u8
  0), (.int .u8 0), (.int .u8 0), (.int .u8 0)] [(0, (1, (.k (.int .u8 3)))), (1, (1, (.k (.int .u8 2)))), (2, (1, (.k (.int .u8 5)))), (4, (1, (.k (.int .u8 6)))), (6, (1, (.k (.int .u8 1))))]),
  .none⟩, ⟨(.some 54), (.bd [(.int .i32 0), (.int .i32 0), (.int .u8 0), (.int .u8 0), (.int .u8 0), (.int .u8 0), (.int .u8 0), (.int .u8 0), (.int .u8 0)] [(0, (1, (.k (.int .i32 1608)))), (1, (1, (.k
  (.int .i32 1608)))), (2, (7, (.t 53)))]), .none⟩, ⟨(.some 55), (.bd [(.int .u8 0), (.int .u8 0), (.int .u8 0), (.int .u8 0), (.int .u8 0), (.int .u8 0), (.int .u8 0)] [(0, (1, (.k (.int .u8 3)))), (1,
  (1, (.k (.int .u8 2)))), (2, (1, (.k (.int .u8 3)))), (4, (1, (.k (.int .u8 6)))), (6, (1, (.k (.int .u8 1))))]), .none⟩, ⟨(.some 56), (.bd [(.int .i32 0), (.int .i32 0), (.int .u8 0), (.int .u8 0),
  (.int .u8 0), (.int .u8 0), (.int .u8 0), (.int .u8 0), (.int .u8 0)] [(0, (1, (.k (.int .i32 1609)))), (1, (1, (.k (.int .i32 1610)))), (2, (7, (.t 55)))]), .none⟩, ⟨(.some 57), (.bd [(.int .u8 0),
  (.int .u8 0), (.int .u8 0), (.int .u8 0), (.int .u8 0), (.int .u8 0), (.int .u8 0)] [(0, (1, (.k (.int .u8 4)))), (1, (1, (.k (.int .u8 8)))), (2, (1, (.k (.int .u8 2)))), (3, (1, (.k (.int .u8
  27)))), (4, (1, (.k (.int .u8 1))))]), .none⟩, ⟨(.some 58), (.bd [(.int .i32 0), (.int .i32 0), (.int .u8 0), (.int .u8 0), (.int .u8 0), (.int .u8 0), (.int .u8 0), (.int .u8 0), (.int .u8 0)] [(0,
  (1, (.k (.int .i32 1611)))), (1, (1, (.k (.int .i32 1611)))), (2, (7, (.t 57)))]), .none⟩, ⟨(.some 59), (.bd [(.int .u8 0), (.int .u8 0), (.int .u8 0), (.int .u8 0), (.int .u8 0), (.int .u8 0), (.int
  .u8 0)] [(0, (1, (.k (.int .u8 4)))), (1, (1, (.k (.int .u8 8)))), (2, (1, (.k (.int .u8 2)))), (3, (1, (.k (.int .u8 28)))), (4, (1, (.k (.int .u8 1))))]), .none⟩, ⟨(.some 60), (.bd [(.int .i32 0),
  (.int .i32 0), (.int .u8 0), (.int .u8 0), (.int .u8 0), (.int .u8 0), (.int .u8 0), (.int .u8 0), (.int .u8 0)] [(0, (1, (.k (.int .i32 1612)))), (1, (1, (.k (.int .i32 1612)))), (2, (7, (.t 59)))]),
  .none⟩, ⟨(.some 61), (.bd [(.int .u8 0), (.int .u8 0), (.int .u8 0), (.int .u8 0), (.int .u8 0), (.int .u8 0), (.int .u8 0)] [(0, (1, (.k (.int .u8 4)))), (1, (1, (.k (.int .u8 8)))), (2, (1, (.k
  (.int .u8 2)))), (3, (1, (.k (.int .u8 29)))), (4, (1, (.k (.int .u8 1))))]), .none⟩, ⟨(.some 62), (.bd [(.int .i32 0), (.int .i32 0), (.int .u8 0), (.int .u8 0), (.int .u8 0), (.int .u8 0), (.int .u8
  0), (.int .u8 0), (.int .u8 0)] [(0, (1, (.k (.int .i32 1613)))), (1, (1, (.k (.int .i32 1613)))), (2, (7, (.t 61)))]), .none⟩, ⟨(.some 63), (.bd [(.int .u8 0), (.int .u8 0), (.int .u8 0), (.int .u8
  0), (.int .u8 0), (.int .u8 0), (.int .u8 0)] [(0, (1, (.k (.int .u8 4)))), (1, (1, (.k (.int .u8 8)))), (2, (1, (.k (.int .u8 2)))), (3, (1, (.k (.int .u8 30)))), (4, (1, (.k (.int .u8 1))))]),
  .none⟩, ⟨(.some 64), (.bd [(.int .i32 0), (.int .i32 0), (.int .u8 0), (.int .u8 0), (.int .u8 0), (.int .u8 0), (.int .u8 0), (.int .u8 0), (.int .u8 0)] [(0, (1, (.k (.int .i32 1614)))), (1, (1, (.k
  (.int .i32 1614)))), (2, (7, (.t 63)))]), .none⟩, ⟨(.some 65), (.bd [(.int .u8 0), (.int .u8 0), (.int .u8 0), (.int .u8 0), (.int .u8 0), (.int .u8 0), (.int .u8 0)] [(0, (1, (.k (.int .u8 4)))), (1,
  (1, (.k (.int .u8 8)))), (2, (1, (.k (.int .u8 2)))), (3, (1, (.k (.int .u8 31)))), (4, (1, (.k (.int .u8 1))))]), .none⟩, ⟨(.some 66), (.bd [(.int .i32 0), (.int .i32 0), (.int .u8 0), (.int .u8 0),
  (.int .u8 0), (.int .u8 0), (.int .u8 0), (.int .u8 0), (.int .u8 0)] [(0, (1, (.k (.int .i32 1615)))), (1, (1, (.k (.int .i32 1615)))), (2, (7, (.t 65)))]), .none⟩, ⟨(.some 67), (.bd [(.int .u8 0),
  (.int .u8 0), (.int .u8 0), (.int .u8 0), (.int .u8 0), (.int .u8 0), (.int .u8 0)] [(0, (1, (.k (.int .u8 4)))), (1, (1, (.k (.int .u8 8)))), (2, (1, (.k (.int .u8 2)))), (3, (1, (.k (.int .u8
  32)))), (4, (1, (.k (.int .u8 1))))]), .none⟩, ⟨(.some 68), (.bd [(.int .i32 0), (.int .i32 0), (.int .u8 0), (.int .u8 0), (.int .u8 0), (.int .u8 0), (.int .u8 0), (.int .u8 0), (.int .u8 0)] [(0,
  (1, (.k (.int .i32 1616)))), (1, (1, (.k (.int .i32 1616)))), (2, (7, (.t 67)))]), .none⟩, ⟨(.some 69), (.bs 88 9 [(.t 2), (.t 4), (.t 6), (.t 8), (.t 10), (.t 12), (.t 14), (.t 16), (.t 18), (.t 20),
  (.t 22), (.t 24), (.t 26), (.t 28), (.t 30), (.t 32), (.t 34), (.t 36), (.t 38), (.t 40), (.t 42), (.t 44), (.t 46), (.t 48), (.t 50), (.t 52), (.t 54), (.t 56), (.t 58), (.t 60), (.t 62), (.t 64),
  (.t 66), (.t 68)]), .none⟩, ⟨(.some 0), (.mv (.t 69)), .none⟩]) .ret))
theorem c68 : Tryd.f68.body.bind (cCode Tryd.prog 70) = some a68 := by kernel_rfl
theorem r68 : Tryd.f68.results.toList = [(.tmp 0)] := by kernel_rfl
theorem n68 : Tryd.f68.ntmps = 70 := by kernel_rfl
theorem e68 : Enters Tryd.prog 68 := Go.Ab.enters_of Tryd.func68 (by kernel_rfl) (by kernel_rfl)
def a69 : ACode :=
  (.seq (.reg [⟨(.some 0), (.mv (.k (.slice .none 0 0))), .none⟩]) (.seq (.reg [⟨(.some 1), (.bd [(.int .u8 0), (.int .u8 0), (.int .u8 0), (.int .u8 0), (.int .u8 0), (.int .u8 0), (.int .u8 0)] [(0,
  (1, (.k (.int .u8 4)))), (1, (1, (.k (.int .u8 8)))), (2, (1, (.k (.int .u8 2)))), (3, (1, (.k (.int .u8 33)))), (4, (1, (.k (.int .u8 1))))]), .none⟩, ⟨(.some 2), (.bd [(.int .i32 0), (.int .i32 0),
  (.int .u8 0), (.int .u8 0), (.int .u8 0), (.int .u8 0), (.int .u8 0), (.int .u8 0), (.int .u8 0)] [(0, (1, (.k (.int .i32 1617)))), (1, (1, (.k (.int .i32 1617)))), (2, (7, (.t 1)))]), .none⟩, ⟨(.some
  3), (.bd [(.int .u8 0), (.int .u8 0), (.int .u8 0), (.int .u8 0), (.int .u8 0), (.int .u8 0), (.int .u8 0)] [(0, (1, (.k (.int .u8 4)))), (1, (1, (.k (.int .u8 8)))), (2, (1, (.k (.int .u8 2)))), (3,
  (1, (.k (.int .u8 34)))), (4, (1, (.k (.int .u8 1))))]), .none⟩, ⟨(.some 4), (.bd [(.int .i32 0), (.int .i32 0), (.int .u8 0), (.int .u8 0), (.int .u8 0), (.int .u8 0), (.int .u8 0), (.int .u8 0),
  (.int .u8 0)] [(0, (1, (.k (.int .i32 1618)))), (1, (1, (.k (.int .i32 1618)))), (2, (7, (.t 3)))]), .none⟩, ⟨(.some 5), (.bd [(.int .u8 0), (.int .u8 0), (.int .u8 0), (.int .u8 0), (.int .u8 0),
  (.int .u8 0), (.int .u8 0)] [(0, (1, (.k (.int .u8 4)))), (1, (1, (.k (.int .u8 8)))), (2, (1, (.k (.int .u8 2)))), (3, (1, (.k (.int .u8 230)))), (4, (1, (.k (.int .u8 1))))]), .none⟩, ⟨(.some 6),
  (.bd [(.int .i32 0), (.int .i32 0), (.int .u8 0), (.int .u8 0), (.int .u8 0), (.int .u8 0), (.int .u8 0), (.int .u8 0), (.int .u8 0)] [(0, (1, (.k (.int .i32 1619)))), (1, (1, (.k (.int .i32 1620)))),
  (2, (7, (.t 5)))]), .none⟩, ⟨(.some 7), (.bd [(.int .u8 0), (.int .u8 0), (.int .u8 0), (.int .u8 0), (.int .u8 0), (.int .u8 0), (.int .u8 0)] [(0, (1, (.k (.int .u8 4)))), (1, (1, (.k (.int .u8
  8)))), (2, (1, (.k (.int .u8 2)))), (3, (1, (.k (.int .u8 220)))), (4, (1, (.k (.int .u8 1))))]), .none⟩, ⟨(.some 8), (.bd [(.int .i32 0), (.int .i32 0), (.int .u8 0), (.int .u8 0), (.int .u8 0),
  (.int .u8 0), (.int .u8 0), (.int .u8 0), (.int .u8 0)] [(0, (1, (.k (.int .i32 1621)))), (1, (1, (.k (.int .i32 1621)))), (2, (7, (.t 7)))]), .none⟩, ⟨(.some 9), (.bd [(.int .u8 0), (.int .u8 0),
  (.int .u8 0), (.int .u8 0), (.int .u8 0), (.int .u8 0), (.int .u8 0)] [(0, (1, (.k (.int .u8 5)))), (1, (1, (.k (.int .u8 6)))), (4, (1, (.k (.int .u8 6)))), (5, (1, (.k (.int .u8 2)))), (6, (1, (.k
  (.int .u8 1))))]), .none⟩, ⟨(.some 10), (.bd [(.int .i32 0), (.int .i32 0), (.int .u8 0), (.int .u8 0), (.int .u8 0), (.int .u8 0), (.int .u8 0), (.int .u8 0), (.int .u8 0)] [(0, (1, (.k (.int .i32
  1632)))), (1, (1, (.k (.int .i32 1641)))), (2, (7, (.t 9)))]), .none⟩, ⟨(.some 11), (.bd [(.int .u8 0), (.int .u8 0), (.int .u8 0), (.int .u8 0), (.int .u8 0), (.int .u8 0), (.int .u8 0)] [(0, (1, (.k
  (.int .u8 6)))), (1, (1, (.k (.int .u8 5)))), (4, (1, (.k (.int .u8 6)))), (6, (1, (.k (.int .u8 1))))]), .none⟩, ⟨(.some 12), (.bd [(.int .i32 0), (.int .i32 0), (.int .u8 0), (.int .u8 0), (.int .u8
  0), (.int .u8 0), (.int .u8 0), (.int .u8 0), (.int .u8 0)] [(0, (1, (.k (.int .i32 1642)))), (1, (1, (.k (.int .i32 1642)))), (2, (7, (.t 11)))]), .none⟩, ⟨(.some 13), (.bd [(.int .u8 0), (.int .u8
  0), (.int .u8 0), (.int .u8 0), (.int .u8 0), (.int .u8 0), (.int .u8 0)] [(0, (1, (.k (.int .u8 6)))), (1, (1, (.k (.int .u8 6)))), (4, (1, (.k (.int .u8 6)))), (6, (1, (.k (.int .u8 1))))]), .none⟩,
  ⟨(.some 14), (.bd [(.int .i32 0), (.int .i32 0), (.int .u8 0), (.int .u8 0), (.int .u8 0), (.int .u8 0), (.int .u8 0), (.int .u8 0), (.int .u8 0)] [(0, (1, (.k (.int .i32 1643)))), (1, (1, (.k (.int
  .i32 1644)))), (2, (7, (.t 13)))]), .none⟩, ⟨(.some 15), (.bd [(.int .u8 0), (.int .u8 0), (.int .u8 0), (.int .u8 0), (.int .u8 0), (.int .u8 0), (.int .u8 0)] [(0, (1, (.k (.int .u8 3)))), (1, (1,
  (.k (.int .u8 2)))), (2, (1, (.k (.int .u8 3)))), (4, (1, (.k (.int .u8 6)))), (6, (1, (.k (.int .u8 1))))]), .none⟩, ⟨(.some 16), (.bd [(.int .i32 0), (.int .i32 0), (.int .u8 0), (.int .u8 0), (.int
  .u8 0), (.int .u8 0), (.int .u8 0), (.int .u8 0), (.int .u8 0)] [(0, (1, (.k (.int .i32 1740)))), (1, (1, (.k (.int .i32 1740)))), (2, (7, (.t 15)))]), .none⟩, ⟨(.some 17), (.bd [(.int .u8 0), (.int
  .u8 0), (.int .u8 0), (.int .u8 0), (.int .u8 0), (.int .u8 0), (.int .u8 0)] [(0, (1, (.k (.int .u8 5)))), (1, (1, (.k (.int .u8 3)))), (4, (1, (.k (.int .u8 6)))), (5, (1, (.k (.int .u8 3)))), (6,
  (1, (.k (.int .u8 1))))]), .none⟩, ⟨(.some 18), (.bd [(.int .i32 0), (.int .i32 0), (.int .u8 0), (.int .u8 0), (.int .u8 0), (.int .u8 0), (.int .u8 0), (.int .u8 0), (.int .u8 0)] [(0, (1, (.k (.int
  .i32 1776)))), (1, (1, (.k (.int .i32 1785)))), (2, (7, (.t 17)))]), .none⟩, ⟨(.some 19), (.bd [(.int .u8 0), (.int .u8 0), (.int .u8 0), (.int .u8 0), (.int .u8 0), (.int .u8 0), (.int .u8 0)] [(0,
  (1, (.k (.int .u8 4)))), (1, (1, (.k (.int .u8 8)))), (2, (1, (.k (.int .u8 2)))), (4, (1, (.k (.int .u8 7))))]), .none⟩, ⟨(.some 20), (.bd [(.int .i32 0), (.int .i32 0), (.int .u8 0), (.int .u8 0),
  (.int .u8 0), (.int .u8 0), (.int .u8 0), (.int .u8 0), (.int .u8 0)] [(0, (1, (.k (.int .i32 2306)))), (1, (1, (.k (.int .i32 2306)))), (2, (7, (.t 19)))]), .none⟩, ⟨(.some 21), (.bd [(.int .u8 0),
  (.int .u8 0), (.int .u8 0), (.int .u8 0), (.int .u8 0), (.int .u8 0), (.int .u8 0)] [(0, (1, (.k (.int .u8 4)))), (4, (1, (.k (.int .u8 7)))), (6, (1, (.k (.int .u8 1))))]), .none⟩, ⟨(.some 22), (.bd
  [(.int .i32 0), (.int .i32 0), (.int .u8 0), (.int .u8 0), (.int .u8 0), (.int .u8 0), (.int .u8 0), (.int .u8 0), (.int .u8 0)] [(0, (1, (.k (.int .i32 2307)))), (1, (1, (.k (.int .i32 2307)))), (2,
  (7, (.t 21)))]), .none⟩, ⟨(.some 23), (.bd [(.int .u8 0), (.int .u8 0), (.int .u8 0), (.int .u8 0), (.int .u8 0), (.int .u8 0), (.int .u8 0)] [(0, (1, (.k (.int .u8 3)))), (4, (1, (.k (.int .u8 7)))),
  (6, (1, (.k (.int .u8 1))))]), .none⟩, ⟨(.some 24), (.bd [(.int .i32 0), (.int .i32 0), (.int .u8 0), (.int .u8 0), (.int .u8 0), (.int .u8 0), (.int .u8 0), (.int .u8 0), (.int .u8 0)] [(0, (1, (.k
  (.int .i32 2309)))), (1, (1, (.k (.int .i32 2361)))), (2, (7, (.t 23)))]), .none⟩, ⟨(.some 25), (.bd [(.int .u8 0), (.int .u8 0), (.int .u8 0), (.int .u8 0), (.int .u8 0), (.int .u8 0), (.int .u8 0)]
  [(0, (1, (.k (.int .u8 4)))), (1, (1, (.k (.int .u8 8)))), (2, (1, (.k (.int .u8 2)))), (3, (1, (.k (.int .u8 7)))), (4, (1, (.k (.int .u8 7))))]), .none⟩, ⟨(.some 26), (.bd [(.int .i32 0), (.int .i32
  0), (.int .u8 0), (.int .u8 0), (.int .u8 0), (.int .u8 0), (.int .u8 0), (.int .u8 0), (.int .u8 0)] [(0, (1, (.k (.int .i32 2364)))), (1, (1, (.k (.int .i32 2364)))), (2, (7, (.t 25)))]), .none⟩,
  ⟨(.some 27), (.bd [(.int .u8 0), (.int .u8 0), (.int .u8 0), (.int .u8 0), (.int .u8 0), (.int .u8 0), (.int .u8 0)] [(0, (1, (.k (.int .u8 4)))), (4, (1, (.k (.int .u8 7)))), (6, (1, (.k (.int .u8
  1))))]), .none⟩, ⟨(.some 28), (.bd [(.int .i32 0), (.int .i32 0), (.int .u8 0), (.int .u8 0), (.int .u8 0), (.int .u8 0), (.int .u8 0), (.int .u8 0), (.int .u8 0)] [(0, (1, (.k (.int .i32 2366)))),
  (1, (1, (.k (.int .i32 2368)))), (2, (7, (.t 27)))]), .none⟩, ⟨(.some 29), (.bd [(.int .u8 0), (.int .u8 0), (.int .u8 0), (.int .u8 0), (.int .u8 0), (.int .u8 0), (.int .u8 0)] [(0, (1, (.k (.int
  .u8 4)))), (1, (1, (.k (.int .u8 8)))), (2, (1, (.k (.int .u8 2)))), (4, (1, (.k (.int .u8 7))))]), .none⟩, ⟨(.some 30), (.bd [(.int .i32 0), (.int .i32 0), (.int .u8 0), (.int .u8 0), (.int .u8 0),
  (.int .u8 0), (.int .u8 0), (.int .u8 0), (.int .u8 0)] [(0, (1, (.k (.int .i32 2369)))), (1, (1, (.k (.int .i32 2376)))), (2, (7, (.t 29)))]), .none⟩, ⟨(.some 31), (.bd [(.int .u8 0), (.int .u8 0),
  (.int .u8 0), (.int .u8 0), (.int .u8 0), (.int .u8 0), (.int .u8 0)] [(0, (1, (.k (.int .u8 4)))), (1, (1, (.k (.int .u8 8)))), (2, (1, (.k (.int .u8 2)))), (3, (1, (.k (.int .u8 9)))), (4, (1, (.k
  (.int .u8 7))))]), .none⟩, ⟨(.some 32), (.bd [(.int .i32 0), (.int .i32 0), (.int .u8 0), (.int .u8 0), (.int .u8 0), (.int .u8 0), (.int .u8 0), (.int .u8 0), (.int .u8 0)] [(0, (1, (.k (.int .i32
  2381)))), (1, (1, (.k (.int .i32 2381)))), (2, (7, (.t 31)))]), .none⟩, ⟨(.some 33), (.bd [(.int .u8 0), (.int .u8 0), (.int .u8 0), (.int .u8 0), (.int .u8 0), (.int .u8 0), (.int .u8 0)] [(0, (1,
  (.k (.int .u8 5)))), (4, (1, (.k (.int .u8 7)))), (5, (1, (.k (.int .u8 4)))), (6, (1, (.k (.int .u8 1))))]), .none⟩, ⟨(.some 34), (.bd [(.int .i32 0), (.int .i32 0), (.int .u8 0), (.int .u8 0), (.int
  .u8 0), (.int .u8 0), (.int .u8 0), (.int .u8 0), (.int .u8 0)] [(0, (1, (.k (.int .i32 2406)))), (1, (1, (.k (.int .i32 2415)))), (2, (7, (.t 33)))]), .none⟩, ⟨(.some 35), (.bd [(.int .u8 0), (.int
  .u8 0), (.int .u8 0), (.int .u8 0), (.int .u8 0), (.int .u8 0), (.int .u8 0)] [(0, (1, (.k (.int .u8 3)))), (4, (1, (.k (.int .u8 11)))), (6, (1, (.k (.int .u8 2))))]), .none⟩, ⟨(.some 36), (.bd
  [(.int .i32 0), (.int .i32 0), (.int .u8 0), (.int .u8 0), (.int .u8 0), (.int .u8 0), (.int .u8 0), (.int .u8 0), (.int .u8 0)] [(0, (1, (.k (.int .i32 4352)))), (1, (1, (.k (.int .i32 4370)))), (2,
  (7, (.t 35)))]), .none⟩, ⟨(.some 37), (.bd [(.int .u8 0), (.int .u8 0), (.int .u8 0), (.int .u8 0), (.int .u8 0), (.int .u8 0), (.int .u8 0)] [(0, (1, (.k (.int .u8 3)))), (4, (1, (.k (.int .u8
  11))))]), .none⟩, ⟨(.some 38), (.bd [(.int .i32 0), (.int .i32 0), (.int .u8 0), (.int .u8 0), (.int .u8 0), (.int .u8 0), (.int .u8 0), (.int .u8 0), (.int .u8 0)] [(0, (1, (.k (.int .i32 4449)))),
  (1, (1, (.k (.int .i32 4469)))), (2, (7, (.t 37)))]), .none⟩, ⟨(.some 39), (.bd [(.int .u8 0), (.int .u8 0), (.int .u8 0), (.int .u8 0), (.int .u8 0), (.int .u8 0), (.int .u8 0)] [(0, (1, (.k (.int
  .u8 3)))), (4, (1, (.k (.int .u8 11))))]), .none⟩, ⟨(.some 40), (.bd [(.int .i32 0), (.int .i32 0), (.int .u8 0), (.int .u8 0), (.int .u8 0), (.int .u8 0), (.int .u8 0), (.int .u8 0), (.int .u8 0)]
  [(0, (1, (.k (.int .i32 4520)))), (1, (1, (.k (.int .i32 4546)))), (2, (7, (.t 39)))]), .none⟩, ⟨(.some 41), (.bd [(.int .u8 0), (.int .u8 0), (.int .u8 0), (.int .u8 0), (.int .u8 0), (.int .u8 0),
  (.int .u8 0)] [(0, (1, (.k (.int .u8 10)))), (1, (1, (.k (.int .u8 9)))), (2, (1, (.k (.int .u8 2))))]), .none⟩, ⟨(.some 42), (.bd [(.int .i32 0), (.int .i32 0), (.int .u8 0), (.int .u8 0), (.int .u8
  0), (.int .u8 0), (.int .u8 0), (.int .u8 0), (.int .u8 0)] [(0, (1, (.k (.int .i32 8203)))), (1, (1, (.k (.int .i32 8203)))), (2, (7, (.t 41)))]), .none⟩, ⟨(.some 43), (.bd [(.int .u8 0), (.int .u8
  0), (.int .u8 0), (.int .u8 0), (.int .u8 0), (.int .u8 0), (.int .u8 0)] [(0, (1, (.k (.int .u8 10)))), (1, (1, (.k (.int .u8 9)))), (4, (1, (.k (.int .u8 1))))]), .none⟩, ⟨(.some 44), (.bd [(.int
  .i32 0), (.int .i32 0), (.int .u8 0), (.int .u8 0), (.int .u8 0), (.int .u8 0), (.int .u8 0), (.int .u8 0), (.int .u8 0)] [(0, (1, (.k (.int .i32 8204)))), (1, (1, (.k (.int .i32 8204)))), (2, (7, (.t
  43)))]), .none⟩, ⟨(.some 45), (.bd [(.int .u8 0), (.int .u8 0), (.int .u8 0), (.int .u8 0), (.int .u8 0), (.int .u8 0), (.int .u8 0)] [(0, (1, (.k (.int .u8 10)))), (1, (1, (.k (.int .u8 9)))), (2,
  (1, (.k (.int .u8 1)))), (4, (1, (.k (.int .u8 1))))]), .none⟩, ⟨(.some 46), (.bd [(.int .i32 0), (.int .i32 0), (.int .u8 0), (.int .u8 0), (.int .u8 0), (.int .u8 0), (.int .u8 0), (.int .u8 0),
  (.int .u8 0)] [(0, (1, (.k (.int .i32 8205)))), (1, (1, (.k (.int .i32 8205)))), (2, (7, (.t 45)))]), .none⟩, ⟨(.some 47), (.bd [(.int .u8 0), (.int .u8 0), (.int .u8 0), (.int .u8 0), (.int .u8 0),
  (.int .u8 0), (.int .u8 0)] [(0, (1, (.k (.int .u8 10)))), (2, (1, (.k (.int .u8 2))))]), .none⟩, ⟨(.some 48), (.bd [(.int .i32 0), (.int .i32 0), (.int .u8 0), (.int .u8 0), (.int .u8 0), (.int .u8
  0), (.int .u8 0), (.int .u8 0), (.int .u8 0)] [(0, (1, (.k (.int .i32 8206)))), (1, (1, (.k (.int .i32 8206)))), (2, (7, (.t 47)))]), .none⟩, ⟨(.some 49), (.bd [(.int .u8 0), (.int .u8 0), (.int .u8
  0), (.int .u8 0), (.int .u8 0), (.int .u8 0), (.int .u8 0)] [(0, (1, (.k (.int .u8 10)))), (1, (1, (.k (.int .u8 1)))), (2, (1, (.k (.int .u8 2))))]), .none⟩, ⟨(.some 50), (.bd [(.int .i32 0), (.int
  .i32 0), (.int .u8 0), (.int .u8 0), (.int .u8 0), (.int .u8 0), (.int .u8 0), (.int .u8 0), (.int .u8 0)] [(0, (1, (.k (.int .i32 8207)))), (1, (1, (.k (.int .i32 8207)))), (2, (7, (.t 49)))]),
  .none⟩, ⟨(.some 51), (.bd [(.int .u8 0), (.int .u8 0), (.int .u8 0), (.int .u8 0), (.int .u8 0), (.int .u8 0), (.int .u8 0)] [(0, (1, (.k (.int .u8 6)))), (1, (1, (.k (.int .u8 13)))), (6, (1, (.k
  (.int .u8 1))))]), .none⟩, ⟨(.some 52), (.bd [(.int .i32 0), (.int .i32 0), (.int .u8 0), (.int .u8 0), (.int .u8 0), (.int .u8 0), (.int .u8 0), (.int .u8 0), (.int .u8 0)] [(0, (1, (.k (.int .i32
  8211)))), (1, (1, (.k (.int .i32 8212)))), (2, (7, (.t 51)))]), .none⟩, ⟨(.some 53), (.bd [(.int .u8 0), (.int .u8 0), (.int .u8 0), (.int .u8 0), (.int .u8 0), (.int .u8 0), (.int .u8 0)] [(0, (1,
  (.k (.int .u8 6)))), (1, (1, (.k (.int .u8 13)))), (6, (1, (.k (.int .u8 1))))]), .none⟩, ⟨(.some 54), (.bd [(.int .i32 0), (.int .i32 0), (.int .u8 0), (.int .u8 0), (.int .u8 0), (.int .u8 0), (.int
  .u8 0), (.int .u8 0), (.int .u8 0)] [(0, (1, (.k (.int .i32 8216)))), (1, (1, (.k (.int .i32 8223)))), (2, (7, (.t 53)))]), .none⟩, ⟨(.some 55), (.bd [(.int .u8 0), (.int .u8 0), (.int .u8 0), (.int
  .u8 0), (.int .u8 0), (.int .u8 0), (.int .u8 0)] [(0, (1, (.k (.int .u8 6)))), (1, (1, (.k (.int .u8 13)))), (6, (1, (.k (.int .u8 1))))]), .none⟩, ⟨(.some 56), (.bd [(.int .i32 0), (.int .i32 0),
  (.int .u8 0), (.int .u8 0), (.int .u8 0), (.int .u8 0), (.int .u8 0), (.int .u8 0), (.int .u8 0)] [(0, (1, (.k (.int .i32 8230)))), (1, (1, (.k (.int .i32 8230)))), (2, (7, (.t 55)))]), .none⟩,
  ⟨(.some 57), (.bd [(.int .u8 0), (.int .u8 0), (.int .u8 0), (.int .u8 0), (.int .u8 0), (.int .u8 0), (.int .u8 0)] [(0, (1, (.k (.int .u8 8)))), (1, (1, (.k (.int .u8 12))))]), .none⟩, ⟨(.some 58),
  (.bd [(.int .i32 0), (.int .i32 0), (.int .u8 0), (.int .u8 0), (.int .u8 0), (.int .u8 0), (.int .u8 0), (.int .u8 0), (.int .u8 0)] [(0, (1, (.k (.int .i32 8232)))), (1, (1, (.k (.int .i32 8232)))),
  (2, (7, (.t 57)))]), .none⟩, ⟨(.some 59), (.bd [(.int .u8 0), (.int .u8 0), (.int .u8 0), (.int .u8 0), (.int .u8 0), (.int .u8 0), (.int .u8 0)] [(0, (1, (.k (.int .u8 8)))), (1, (1, (.k (.int .u8
  10))))]), .none⟩, ⟨(.some 60), (.bd [(.int .i32 0), (.int .i32 0), (.int .u8 0), (.int .u8 0), (.int .u8 0), (.int .u8 0), (.int .u8 0), (.int .u8 0), (.int .u8 0)] [(0, (1, (.k (.int .i32 8233)))),
  (1, (1, (.k (.int .i32 8233)))), (2, (7, (.t 59)))]), .none⟩, ⟨(.some 61), (.bd [(.int .u8 0), (.int .u8 0), (.int .u8 0), (.int .u8 0), (.int .u8 0), (.int .u8 0), (.int .u8 0)] [(0, (1, (.k (.int
  .u8 10)))), (1, (1, (.k (.int .u8 14)))), (2, (1, (.k (.int .u8 2))))]), .none⟩, ⟨(.some 62), (.bd [(.int .i32 0), (.int .i32 0), (.int .u8 0), (.int .u8 0), (.int .u8 0), (.int .u8 0), (.int .u8 0),
  (.int .u8 0), (.int .u8 0)] [(0, (1, (.k (.int .i32 8234)))), (1, (1, (.k (.int .i32 8234)))), (2, (7, (.t 61)))]), .none⟩, ⟨(.some 63), (.bd [(.int .u8 0), (.int .u8 0), (.int .u8 0), (.int .u8 0),
  (.int .u8 0), (.int .u8 0), (.int .u8 0)] [(0, (1, (.k (.int .u8 10)))), (1, (1, (.k (.int .u8 15)))), (2, (1, (.k (.int .u8 2))))]), .none⟩, ⟨(.some 64), (.bd [(.int .i32 0), (.int .i32 0), (.int .u8
  0), (.int .u8 0), (.int .u8 0), (.int .u8 0), (.int .u8 0), (.int .u8 0), (.int .u8 0)] [(0, (1, (.k (.int .i32 8235)))), (1, (1, (.k (.int .i32 8235)))), (2, (7, (.t 63)))]), .none⟩, ⟨(.some 65),
  (.bd [(.int .u8 0), (.int .u8 0), (.int .u8 0), (.int .u8 0), (.int .u8 0), (.int .u8 0), (.int .u8 0)] [(0, (1, (.k (.int .u8 10)))), (1, (1, (.k (.int .u8 16)))), (2, (1, (.k (.int .u8 2))))]),
  .none⟩, ⟨(.some 66), (.bd [(.int .i32 0), (.int .i32 0), (.int .u8 0), (.int .u8 0), (.int .u8 0), (.int .u8 0), (.int .u8 0), (.int .u8 0), (.int .u8 0)] [(0, (1, (.k (.int .i32 8236)))), (1, (1, (.k
  (.int .i32 8236)))), (2, (7, (.t 65)))]), .none⟩, ⟨(.some 67), (.bd [(.int .u8 0), (.int .u8 0), (.int .u8 0), (.int .u8 0), (.int .u8 0), (.int .u8 0), (.int .u8 0)] [(0, (1, (.k (.int .u8 10)))),
  (1, (1, (.k (.int .u8 17)))), (2, (1, (.k (.int .u8 2))))]), .none⟩, ⟨(.some 68), (.bd [(.int .i32 0), (.int .i32 0), (.int .u8 0), (.int .u8 0), (.int .u8 0), (.int .u8 0), (.int .u8 0), (.int .u8
  0), (.int .u8 0)] [(0, (1, (.k (.int .i32 8237)))), (1, (1, (.k (.int .i32 8237)))), (2, (7, (.t 67)))]), .none⟩, ⟨(.some 69), (.bs 88 9 [(.t 2), (.t 4), (.t 6), (.t 8), (.t 10), (.t 12), (.t 14), (.t
  16), (.t 18), (.t 20), (.t 22), (.t 24), (.t 26), (.t 28), (.t 30), (.t 32), (.t 34), (.t 36), (.t 38), (.t 40), (.t 42), (.t 44), (.t 46), (.t 48), (.t 50), (.t 52), (.t 54), (.t 56), (.t 58), (.t
  60), (.t 62), (.t 64), (.t 66), (.t 68)]), .none⟩, ⟨(.some 0), (.mv (.t 69)), .none⟩]) .ret))
theorem c69 : Tryd.f69.body.bind (cCode Tryd.prog 70) = some a69 := by kernel_rfl
theorem r69 : Tryd.f69.results.toList = [(.tmp 0)] := by kernel_rfl
theorem n69 : Tryd.f69.ntmps = 70 := by kernel_rfl
theorem e69 : Enters Tryd.prog 69 := Go.Ab.enters_of Tryd.func69 (by kernel_rfl) (by kernel_rfl)
def a70 : ACode :=
  (.seq (.reg [⟨(.some 0), (.mv (.k (.slice .none 0 0))), .none⟩]) (.seq (.reg [⟨(.some 1), (.bd [(.int .u8 0), (.int .u8 0), (.int .u8 0), (.int .u8 0), (.int .u8 0), (.int .u8 0), (.int .u8 0)] [(0,
  (1, (.k (.int .u8 10)))), (1, (1, (.k (.int .u8 18)))), (2, (1, (.k (.int .u8 2))))]), .none⟩, ⟨(.some 2), (.bd [(.int .i32 0), (.int .i32 0), (.int .u8 0), (.int .u8 0), (.int .u8 0), (.int .u8 0),
  (.int .u8 0), (.int .u8 0), (.int .u8 0)] [(0, (1, (.k (.int .i32 8238)))), (1, (1, (.k (.int .i32 8238)))), (2, (7, (.t 1)))]), .none⟩, ⟨(.some 3), (.bd [(.int .u8 0), (.int .u8 0), (.int .u8 0),
  (.int .u8 0), (.int .u8 0), (.int .u8 0), (.int .u8 0)] [(0, (1, (.k (.int .u8 7)))), (1, (1, (.k (.int .u8 7)))), (6, (1, (.k (.int .u8 1))))]), .none⟩, ⟨(.some 4), (.bd [(.int .i32 0), (.int .i32
  0), (.int .u8 0), (.int .u8 0), (.int .u8 0), (.int .u8 0), (.int .u8 0), (.int .u8 0), (.int .u8 0)] [(0, (1, (.k (.int .i32 8260)))), (1, (1, (.k (.int .i32 8260)))), (2, (7, (.t 3)))]), .none⟩,
  ⟨(.some 5), (.bd [(.int .u8 0), (.int .u8 0), (.int .u8 0), (.int .u8 0), (.int .u8 0), (.int .u8 0), (.int .u8 0)] [(0, (1, (.k (.int .u8 10)))), (1, (1, (.k (.int .u8 19))))]), .none⟩, ⟨(.some 6),
  (.bd [(.int .i32 0), (.int .i32 0), (.int .u8 0), (.int .u8 0), (.int .u8 0), (.int .u8 0), (.int .u8 0), (.int .u8 0), (.int .u8 0)] [(0, (1, (.k (.int .i32 8294)))), (1, (1, (.k (.int .i32 8294)))),
  (2, (7, (.t 5)))]), .none⟩, ⟨(.some 7), (.bd [(.int .u8 0), (.int .u8 0), (.int .u8 0), (.int .u8 0), (.int .u8 0), (.int .u8 0), (.int .u8 0)] [(0, (1, (.k (.int .u8 10)))), (1, (1, (.k (.int .u8
  20))))]), .none⟩, ⟨(.some 8), (.bd [(.int .i32 0), (.int .i32 0), (.int .u8 0), (.int .u8 0), (.int .u8 0), (.int .u8 0), (.int .u8 0), (.int .u8 0), (.int .u8 0)] [(0, (1, (.k (.int .i32 8295)))),
  (1, (1, (.k (.int .i32 8295)))), (2, (7, (.t 7)))]), .none⟩, ⟨(.some 9), (.bd [(.int .u8 0), (.int .u8 0), (.int .u8 0), (.int .u8 0), (.int .u8 0), (.int .u8 0), (.int .u8 0)] [(0, (1, (.k (.int .u8
  10)))), (1, (1, (.k (.int .u8 21))))]), .none⟩, ⟨(.some 10), (.bd [(.int .i32 0), (.int .i32 0), (.int .u8 0), (.int .u8 0), (.int .u8 0), (.int .u8 0), (.int .u8 0), (.int .u8 0), (.int .u8 0)] [(0,
  (1, (.k (.int .i32 8296)))), (1, (1, (.k (.int .i32 8296)))), (2, (7, (.t 9)))]), .none⟩, ⟨(.some 11), (.bd [(.int .u8 0), (.int .u8 0), (.int .u8 0), (.int .u8 0), (.int .u8 0), (.int .u8 0), (.int
  .u8 0)] [(0, (1, (.k (.int .u8 10)))), (1, (1, (.k (.int .u8 22))))]), .none⟩, ⟨(.some 12), (.bd [(.int .i32 0), (.int .i32 0), (.int .u8 0), (.int .u8 0), (.int .u8 0), (.int .u8 0), (.int .u8 0),
  (.int .u8 0), (.int .u8 0)] [(0, (1, (.k (.int .i32 8297)))), (1, (1, (.k (.int .i32 8297)))), (2, (7, (.t 11)))]), .none⟩, ⟨(.some 13), (.bd [(.int .u8 0), (.int .u8 0), (.int .u8 0), (.int .u8 0),
  (.int .u8 0), (.int .u8 0), (.int .u8 0)] [(0, (1, (.k (.int .u8 7)))), (1, (1, (.k (.int .u8 5)))), (6, (1, (.k (.int .u8 1))))]), .none⟩, ⟨(.some 14), (.bd [(.int .i32 0), (.int .i32 0), (.int .u8
  0), (.int .u8 0), (.int .u8 0), (.int .u8 0), (.int .u8 0), (.int .u8 0), (.int .u8 0)] [(0, (1, (.k (.int .i32 8364)))), (1, (1, (.k (.int .i32 8364)))), (2, (7, (.t 13)))]), .none⟩, ⟨(.some 15),
  (.bd [(.int .u8 0), (.int .u8 0), (.int .u8 0), (.int .u8 0), (.int .u8 0), (.int .u8 0), (.int .u8 0)] [(0, (1, (.k (.int .u8 7)))), (1, (1, (.k (.int .u8 4)))), (6, (1, (.k (.int .u8 1))))]),
  .none⟩, ⟨(.some 16), (.bd [(.int .i32 0), (.int .i32 0), (.int .u8 0), (.int .u8 0), (.int .u8 0), (.int .u8 0), (.int .u8 0), (.int .u8 0), (.int .u8 0)] [(0, (1, (.k (.int .i32 8722)))), (1, (1, (.k
  (.int .i32 8722)))), (2, (7, (.t 15)))]), .none⟩, ⟨(.some 17), (.bd [(.int .u8 0), (.int .u8 0), (.int .u8 0), (.int .u8 0), (.int .u8 0), (.int .u8 0), (.int .u8 0)] [(0, (1, (.k (.int .u8 7)))), (1,
  (1, (.k (.int .u8 13)))), (6, (1, (.k (.int .u8 1))))]), .none⟩, ⟨(.some 18), (.bd [(.int .i32 0), (.int .i32 0), (.int .u8 0), (.int .u8 0), (.int .u8 0), (.int .u8 0), (.int .u8 0), (.int .u8 0),
  (.int .u8 0)] [(0, (1, (.k (.int .i32 8725)))), (1, (1, (.k (.int .i32 8725)))), (2, (7, (.t 17)))]), .none⟩, ⟨(.some 19), (.bd [(.int .u8 0), (.int .u8 0), (.int .u8 0), (.int .u8 0), (.int .u8 0),
  (.int .u8 0), (.int .u8 0)] [(0, (1, (.k (.int .u8 6)))), (1, (1, (.k (.int .u8 13)))), (6, (1, (.k (.int .u8 2))))]), .none⟩, ⟨(.some 20), (.bd [(.int .i32 0), (.int .i32 0), (.int .u8 0), (.int .u8
  0), (.int .u8 0), (.int .u8 0), (.int .u8 0), (.int .u8 0), (.int .u8 0)] [(0, (1, (.k (.int .i32 9001)))), (1, (1, (.k (.int .i32 9002)))), (2, (7, (.t 19)))]), .none⟩, ⟨(.some 21), (.bd [(.int .u8
  0), (.int .u8 0), (.int .u8 0), (.int .u8 0), (.int .u8 0), (.int .u8 0), (.int .u8 0)] [(0, (1, (.k (.int .u8 6)))), (1, (1, (.k (.int .u8 13)))), (6, (1, (.k (.int .u8 2))))]), .none⟩, ⟨(.some 22),
  (.bd [(.int .i32 0), (.int .i32 0), (.int .u8 0), (.int .u8 0), (.int .u8 0), (.int .u8 0), (.int .u8 0), (.int .u8 0), (.int .u8 0)] [(0, (1, (.k (.int .i32 12290)))), (1, (1, (.k (.int .i32
  12290)))), (2, (7, (.t 21)))]), .none⟩, ⟨(.some 23), (.bd [(.int .u8 0), (.int .u8 0), (.int .u8 0), (.int .u8 0), (.int .u8 0), (.int .u8 0), (.int .u8 0)] [(0, (1, (.k (.int .u8 3)))), (4, (1, (.k
  (.int .u8 8)))), (6, (1, (.k (.int .u8 2))))]), .none⟩, ⟨(.some 24), (.bd [(.int .i32 0), (.int .i32 0), (.int .u8 0), (.int .u8 0), (.int .u8 0), (.int .u8 0), (.int .u8 0), (.int .u8 0), (.int .u8
  0)] [(0, (1, (.k (.int .i32 12293)))), (1, (1, (.k (.int .i32 12293)))), (2, (7, (.t 23)))]), .none⟩, ⟨(.some 25), (.bd [(.int .u8 0), (.int .u8 0), (.int .u8 0), (.int .u8 0), (.int .u8 0), (.int .u8
  0), (.int .u8 0)] [(0, (1, (.k (.int .u8 6)))), (1, (1, (.k (.int .u8 13)))), (6, (1, (.k (.int .u8 2))))]), .none⟩, ⟨(.some 26), (.bd [(.int .i32 0), (.int .i32 0), (.int .u8 0), (.int .u8 0), (.int
  .u8 0), (.int .u8 0), (.int .u8 0), (.int .u8 0), (.int .u8 0)] [(0, (1, (.k (.int .i32 12296)))), (1, (1, (.k (.int .i32 12297)))), (2, (7, (.t 25)))]), .none⟩, ⟨(.some 27), (.bd [(.int .u8 0), (.int
  .u8 0), (.int .u8 0), (.int .u8 0), (.int .u8 0), (.int .u8 0), (.int .u8 0)] [(0, (1, (.k (.int .u8 6)))), (1, (1, (.k (.int .u8 13)))), (6, (1, (.k (.int .u8 2))))]), .none⟩, ⟨(.some 28), (.bd
  [(.int .i32 0), (.int .i32 0), (.int .u8 0), (.int .u8 0), (.int .u8 0), (.int .u8 0), (.int .u8 0), (.int .u8 0), (.int .u8 0)] [(0, (1, (.k (.int .i32 12300)))), (1, (1, (.k (.int .i32 12301)))),
  (2, (7, (.t 27)))]), .none⟩, ⟨(.some 29), (.bd [(.int .u8 0), (.int .u8 0), (.int .u8 0), (.int .u8 0), (.int .u8 0), (.int .u8 0), (.int .u8 0)] [(0, (1, (.k (.int .u8 3)))), (4, (1, (.k (.int .u8
  9)))), (6, (1, (.k (.int .u8 2))))]), .none⟩, ⟨(.some 30), (.bd [(.int .i32 0), (.int .i32 0), (.int .u8 0), (.int .u8 0), (.int .u8 0), (.int .u8 0), (.int .u8 0), (.int .u8 0), (.int .u8 0)] [(0,
  (1, (.k (.int .i32 12353)))), (1, (1, (.k (.int .i32 12438)))), (2, (7, (.t 29)))]), .none⟩, ⟨(.some 31), (.bd [(.int .u8 0), (.int .u8 0), (.int .u8 0), (.int .u8 0), (.int .u8 0), (.int .u8 0),
  (.int .u8 0)] [(0, (1, (.k (.int .u8 4)))), (1, (1, (.k (.int .u8 8)))), (2, (1, (.k (.int .u8 2)))), (3, (1, (.k (.int .u8 8)))), (4, (1, (.k (.int .u8 1))))]), .none⟩, ⟨(.some 32), (.bd [(.int .i32
  0), (.int .i32 0), (.int .u8 0), (.int .u8 0), (.int .u8 0), (.int .u8 0), (.int .u8 0), (.int .u8 0), (.int .u8 0)] [(0, (1, (.k (.int .i32 12441)))), (1, (1, (.k (.int .i32 12441)))), (2, (7, (.t
  31)))]), .none⟩, ⟨(.some 33), (.bd [(.int .u8 0), (.int .u8 0), (.int .u8 0), (.int .u8 0), (.int .u8 0), (.int .u8 0), (.int .u8 0)] [(0, (1, (.k (.int .u8 3)))), (4, (1, (.k (.int .u8 10)))), (6,
  (1, (.k (.int .u8 2))))]), .none⟩, ⟨(.some 34), (.bd [(.int .i32 0), (.int .i32 0), (.int .u8 0), (.int .u8 0), (.int .u8 0), (.int .u8 0), (.int .u8 0), (.int .u8 0), (.int .u8 0)] [(0, (1, (.k (.int
  .i32 12449)))), (1, (1, (.k (.int .i32 12538)))), (2, (7, (.t 33)))]), .none⟩, ⟨(.some 35), (.bd [(.int .u8 0), (.int .u8 0), (.int .u8 0), (.int .u8 0), (.int .u8 0), (.int .u8 0), (.int .u8 0)] [(0,
  (1, (.k (.int .u8 6)))), (1, (1, (.k (.int .u8 13)))), (6, (1, (.k (.int .u8 2))))]), .none⟩, ⟨(.some 36), (.bd [(.int .i32 0), (.int .i32 0), (.int .u8 0), (.int .u8 0), (.int .u8 0), (.int .u8 0),
  (.int .u8 0), (.int .u8 0), (.int .u8 0)] [(0, (1, (.k (.int .i32 12539)))), (1, (1, (.k (.int .i32 12539)))), (2, (7, (.t 35)))]), .none⟩, ⟨(.some 37), (.bd [(.int .u8 0), (.int .u8 0), (.int .u8 0),
  (.int .u8 0), (.int .u8 0), (.int .u8 0), (.int .u8 0)] [(0, (1, (.k (.int .u8 3)))), (6, (1, (.k (.int .u8 2))))]), .none⟩, ⟨(.some 38), (.bd [(.int .i32 0), (.int .i32 0), (.int .u8 0), (.int .u8
  0), (.int .u8 0), (.int .u8 0), (.int .u8 0), (.int .u8 0), (.int .u8 0)] [(0, (1, (.k (.int .i32 12540)))), (1, (1, (.k (.int .i32 12540)))), (2, (7, (.t 37)))]), .none⟩, ⟨(.some 39), (.bd [(.int .u8
  0), (.int .u8 0), (.int .u8 0), (.int .u8 0), (.int .u8 0), (.int .u8 0), (.int .u8 0)] [(0, (1, (.k (.int .u8 3)))), (4, (1, (.k (.int .u8 8)))), (6, (1, (.k (.int .u8 2))))]), .none⟩, ⟨(.some 40),
  (.bd [(.int .i32 0), (.int .i32 0), (.int .u8 0), (.int .u8 0), (.int .u8 0), (.int .u8 0), (.int .u8 0), (.int .u8 0), (.int .u8 0)] [(0, (1, (.k (.int .i32 19968)))), (1, (1, (.k (.int .i32
  40959)))), (2, (7, (.t 39)))]), .none⟩, ⟨(.some 41), (.bd [(.int .u8 0), (.int .u8 0), (.int .u8 0), (.int .u8 0), (.int .u8 0), (.int .u8 0), (.int .u8 0)] [(0, (1, (.k (.int .u8 3)))), (4, (1, (.k
  (.int .u8 11)))), (6, (1, (.k (.int .u8 2))))]), .none⟩, ⟨(.some 42), (.bd [(.int .i32 0), (.int .i32 0), (.int .u8 0), (.int .u8 0), (.int .u8 0), (.int .u8 0), (.int .u8 0), (.int .u8 0), (.int .u8
  0)] [(0, (1, (.k (.int .i32 44032)))), (1, (1, (.k (.int .i32 55203)))), (2, (7, (.t 41)))]), .none⟩, ⟨(.some 43), (.bd [(.int .u8 0), (.int .u8 0), (.int .u8 0), (.int .u8 0), (.int .u8 0), (.int .u8
  0), (.int .u8 0)] [(0, (1, (.k (.int .u8 4)))), (1, (1, (.k (.int .u8 8)))), (2, (1, (.k (.int .u8 2)))), (4, (1, (.k (.int .u8 1))))]), .none⟩, ⟨(.some 44), (.bd [(.int .i32 0), (.int .i32 0), (.int
  .u8 0), (.int .u8 0), (.int .u8 0), (.int .u8 0), (.int .u8 0), (.int .u8 0), (.int .u8 0)] [(0, (1, (.k (.int .i32 65038)))), (1, (1, (.k (.int .i32 65039)))), (2, (7, (.t 43)))]), .none⟩, ⟨(.some
  45), (.bd [(.int .u8 0), (.int .u8 0), (.int .u8 0), (.int .u8 0), (.int .u8 0), (.int .u8 0), (.int .u8 0)] [(0, (1, (.k (.int .u8 10)))), (1, (1, (.k (.int .u8 9)))), (2, (1, (.k (.int .u8 2))))]),
  .none⟩, ⟨(.some 46), (.bd [(.int .i32 0), (.int .i32 0), (.int .u8 0), (.int .u8 0), (.int .u8 0), (.int .u8 0), (.int .u8 0), (.int .u8 0), (.int .u8 0)] [(0, (1, (.k (.int .i32 65279)))), (1, (1,
  (.k (.int .i32 65279)))), (2, (7, (.t 45)))]), .none⟩, ⟨(.some 47), (.bd [(.int .u8 0), (.int .u8 0), (.int .u8 0), (.int .u8 0), (.int .u8 0), (.int .u8 0), (.int .u8 0)] [(0, (1, (.k (.int .u8
  6)))), (1, (1, (.k (.int .u8 13)))), (6, (1, (.k (.int .u8 2))))]), .none⟩, ⟨(.some 48), (.bd [(.int .i32 0), (.int .i32 0), (.int .u8 0), (.int .u8 0), (.int .u8 0), (.int .u8 0), (.int .u8 0), (.int
  .u8 0), (.int .u8 0)] [(0, (1, (.k (.int .i32 65288)))), (1, (1, (.k (.int .i32 65289)))), (2, (7, (.t 47)))]), .none⟩, ⟨(.some 49), (.bd [(.int .u8 0), (.int .u8 0), (.int .u8 0), (.int .u8 0), (.int
  .u8 0), (.int .u8 0), (.int .u8 0)] [(0, (1, (.k (.int .u8 6)))), (1, (1, (.k (.int .u8 7)))), (6, (1, (.k (.int .u8 2))))]), .none⟩, ⟨(.some 50), (.bd [(.int .i32 0), (.int .i32 0), (.int .u8 0),
  (.int .u8 0), (.int .u8 0), (.int .u8 0), (.int .u8 0), (.int .u8 0), (.int .u8 0)] [(0, (1, (.k (.int .i32 65294)))), (1, (1, (.k (.int .i32 65295)))), (2, (7, (.t 49)))]), .none⟩, ⟨(.some 51), (.bd
  [(.int .u8 0), (.int .u8 0), (.int .u8 0), (.int .u8 0), (.int .u8 0), (.int .u8 0), (.int .u8 0)] [(0, (1, (.k (.int .u8 5)))), (1, (1, (.k (.int .u8 3)))), (5, (1, (.k (.int .u8 5)))), (6, (1, (.k
  (.int .u8 2))))]), .none⟩, ⟨(.some 52), (.bd [(.int .i32 0), (.int .i32 0), (.int .u8 0), (.int .u8 0), (.int .u8 0), (.int .u8 0), (.int .u8 0), (.int .u8 0), (.int .u8 0)] [(0, (1, (.k (.int .i32
  65296)))), (1, (1, (.k (.int .i32 65305)))), (2, (7, (.t 51)))]), .none⟩, ⟨(.some 53), (.bd [(.int .u8 0), (.int .u8 0), (.int .u8 0), (.int .u8 0), (.int .u8 0), (.int .u8 0), (.int .u8 0)] [(0, (1,
  (.k (.int .u8 6)))), (1, (1, (.k (.int .u8 7)))), (6, (1, (.k (.int .u8 2))))]), .none⟩, ⟨(.some 54), (.bd [(.int .i32 0), (.int .i32 0), (.int .u8 0), (.int .u8 0), (.int .u8 0), (.int .u8 0), (.int
  .u8 0), (.int .u8 0), (.int .u8 0)] [(0, (1, (.k (.int .i32 65306)))), (1, (1, (.k (.int .i32 65306)))), (2, (7, (.t 53)))]), .none⟩, ⟨(.some 55), (.bd [(.int .u8 0), (.int .u8 0), (.int .u8 0), (.int
  .u8 0), (.int .u8 0), (.int .u8 0), (.int .u8 0)] [(0, (1, (.k (.int .u8 2)))), (4, (1, (.k (.int .u8 2)))), (6, (1, (.k (.int .u8 2))))]), .none⟩, ⟨(.some 56), (.bd [(.int .i32 0), (.int .i32 0),
  (.int .u8 0), (.int .u8 0), (.int .u8 0), (.int .u8 0), (.int .u8 0), (.int .u8 0), (.int .u8 0)] [(0, (1, (.k (.int .i32 65313)))), (1, (1, (.k (.int .i32 65338)))), (2, (7, (.t 55)))]), .none⟩,
  ⟨(.some 57), (.bd [(.int .u8 0), (.int .u8 0), (.int .u8 0), (.int .u8 0), (.int .u8 0), (.int .u8 0), (.int .u8 0)] [(0, (1, (.k (.int .u8 1)))), (4, (1, (.k (.int .u8 2)))), (6, (1, (.k (.int .u8
  2))))]), .none⟩, ⟨(.some 58), (.bd [(.int .i32 0), (.int .i32 0), (.int .u8 0), (.int .u8 0), (.int .u8 0), (.int .u8 0), (.int .u8 0), (.int .u8 0), (.int .u8 0)] [(0, (1, (.k (.int .i32 65345)))),
  (1, (1, (.k (.int .i32 65370)))), (2, (7, (.t 57)))]), .none⟩, ⟨(.some 59), (.bd [(.int .u8 0), (.int .u8 0), (.int .u8 0), (.int .u8 0), (.int .u8 0), (.int .u8 0), (.int .u8 0)] [(0, (1, (.k (.int
  .u8 7)))), (1, (1, (.k (.int .u8 13)))), (6, (1, (.k (.int .u8 1))))]), .none⟩, ⟨(.some 60), (.bd [(.int .i32 0), (.int .i32 0), (.int .u8 0), (.int .u8 0), (.int .u8 0), (.int .u8 0), (.int .u8 0),
  (.int .u8 0), (.int .u8 0)] [(0, (1, (.k (.int .i32 65533)))), (1, (1, (.k (.int .i32 65533)))), (2, (7, (.t 59)))]), .none⟩, ⟨(.some 61), (.bs 88 9 [(.t 2), (.t 4), (.t 6), (.t 8), (.t 10), (.t 12),
  (.t 14), (.t 16), (.t 18), (.t 20), (.t 22), (.t 24), (.t 26), (.t 28), (.t 30), (.t 32), (.t 34), (.t 36), (.t 38), (.t 40), (.t 42), (.t 44), (.t 46), (.t 48), (.t 50), (.t 52), (.t 54), (.t 56),
  (.t 58), (.t 60)]), .none⟩, ⟨(.some 0), (.mv (.t 61)), .none⟩]) .ret))
theorem c70 : Tryd.f70.body.bind (cCode Tryd.prog 62) = some a70 := by kernel_rfl
theorem r70 : Tryd.f70.results.toList = [(.tmp 0)] := by kernel_rfl
theorem n70 : Tryd.f70.ntmps = 62 := by kernel_rfl
theorem e70 : Enters Tryd.prog 70 := Go.Ab.enters_of Tryd.func70 (by kernel_rfl) (by kernel_rfl)
/-- The rows that straight code makes. -/
def rowsOf (A : ACode) (rs : List ResultVar) : List (List Value) := ((rowC A rs).map (·.2)).getD []

def tb1 : List (List Value) := rowsOf a66 [.tmp 0]
def tb2 : List (List Value) := rowsOf a67 [.tmp 0]
def tb3 : List (List Value) := rowsOf a68 [.tmp 0]
def tb4 : List (List Value) := rowsOf a69 [.tmp 0]
def tb5 : List (List Value) := rowsOf a70 [.tmp 0]
theorem part1_pure : Pure Tryd.prog 66 [] [88] (.sl 88 tb1 (some 0)) := pure1_run Tryd.func66 c66 n66 e66 r66 (by kernel_rfl)
theorem part2_pure : Pure Tryd.prog 67 [] [88] (.sl 88 tb2 (some 0)) := pure1_run Tryd.func67 c67 n67 e67 r67 (by kernel_rfl)
theorem part3_pure : Pure Tryd.prog 68 [] [88] (.sl 88 tb3 (some 0)) := pure1_run Tryd.func68 c68 n68 e68 r68 (by kernel_rfl)
theorem part4_pure : Pure Tryd.prog 69 [] [88] (.sl 88 tb4 (some 0)) := pure1_run Tryd.func69 c69 n69 e69 r69 (by kernel_rfl)
theorem part5_pure : Pure Tryd.prog 70 [] [88] (.sl 88 tb5 (some 0)) := pure1_run Tryd.func70 c70 n70 e70 r70 (by kernel_rfl)
end Go.Proofs.YteekelelcbfekaaDoor

/-! ## Ucd2D -/

namespace Go.Proofs.YteekelelcbfekaaDoor
open Go Go.Ab
def a49 : ACode :=
  (.seq (.reg [⟨(.some 4), (.mv (.k (.int .i64 0))), .none⟩]) (.seq (.reg [⟨(.some 8), (.mv (.t 0)), .none⟩, ⟨(.some 5), (.mv (.k (.int .i64 0))), .none⟩, ⟨(.some 6), (.mv (.t 8)), .none⟩]) (.seq
  (.block 0 (.loop (.seq (.seq (.reg [⟨(.some 9), (.mv (.t 5)), .none⟩, ⟨(.some 10), (.mv (.t 6)), .none⟩, ⟨(.some 11), (.bin .lss (.t 9) (.t 10)), .none⟩]) (.cond (.t 11) .skip (.exit 0))) (.block 1
  (.seq (.reg [⟨(.some 12), (.mv (.t 5)), .none⟩, ⟨(.some 13), (.mv (.t 6)), .none⟩, ⟨(.some 14), (.bin .add (.t 12) (.t 13)), .none⟩, ⟨(.some 15), (.cvI .u64 (.t 14)), .none⟩, ⟨(.some 16), (.bin .shr
  (.t 15) (.k (.int .u64 1))), .none⟩, ⟨(.some 17), (.cvI .i64 (.t 16)), .none⟩, ⟨(.some 7), (.mv (.t 17)), .none⟩]) (.seq (.reg [⟨(.some 18), (.mv (.t 1)), .none⟩, ⟨(.some 19), (.mv (.t 7)), .none⟩,
  ⟨(.some 20), (.call (.t 18) [(.t 19)]), .none⟩, ⟨(.some 21), (.not (.t 20)), .none⟩]) (.cond (.t 21) (.reg [⟨(.some 22), (.mv (.t 7)), .none⟩, ⟨(.some 23), (.bin .add (.t 22) (.k (.int .i64 1))),
  .none⟩, ⟨(.some 5), (.mv (.t 23)), .none⟩]) (.reg [⟨(.some 24), (.mv (.t 7)), .none⟩, ⟨(.some 6), (.mv (.t 24)), .none⟩])))))))) (.seq (.reg [⟨(.some 25), (.mv (.t 5)), .none⟩, ⟨(.some 4), (.mv (.t
  25)), .none⟩]) .ret))))
theorem c49 : Tryd.f49.body.bind (cCode Tryd.prog 26) = some a49 := by kernel_rfl
theorem r49 : Tryd.f49.results.toList = [(.tmp 4)] := by kernel_rfl
theorem n49 : Tryd.f49.ntmps = 26 := by kernel_rfl
theorem e49 : Enters Tryd.prog 49 := Go.Ab.enters_of Tryd.func49 (by kernel_rfl) (by kernel_rfl)
def a50 : ACode :=
  (.seq (.reg [⟨(.some 4), (.mv (.k (.bool false))), .none⟩]) (.seq (.dreg [⟨(.some 5), (.ld .none (.t 1)), .none⟩, ⟨(.some 6), (.mv (.t 0)), .none⟩, ⟨(.some 7), (.ia 88 (.t 5) (.t 6)), .none⟩, ⟨(.some
  8), (.fa 1 (.t 7)), .none⟩, ⟨(.some 9), (.ld .none (.t 8)), .none⟩, ⟨(.some 10), (.ld .none (.t 2)), .none⟩, ⟨(.some 11), (.bin .geq (.t 9) (.t 10)), .none⟩, ⟨(.some 4), (.mv (.t 11)), .none⟩]) .ret))
theorem c50 : Tryd.f50.body.bind (cCode Tryd.prog 12) = some a50 := by kernel_rfl
theorem r50 : Tryd.f50.results.toList = [(.tmp 4)] := by kernel_rfl
theorem n50 : Tryd.f50.ntmps = 12 := by kernel_rfl
theorem e50 : Enters Tryd.prog 50 := Go.Ab.enters_of Tryd.func50 (by kernel_rfl) (by kernel_rfl)
def a48 : ACode :=
  (.seq (.reg [⟨(.some 2), (.mv (.k (.slice .none 0 0))), .none⟩]) (.seq (.block 0 (.seq (.reg [⟨(.some 4), (.mv (.t 0)), .none⟩, ⟨(.some 5), (.bin .lss (.t 4) (.k (.int .i32 127))), .none⟩, ⟨(.some 3),
  (.mv (.t 5)), .none⟩]) (.cond (.t 3) (.seq (.reg [⟨(.some 6), (.call (.f 66) []), .none⟩, ⟨(.some 2), (.mv (.t 6)), .none⟩]) .ret) (.seq (.reg [⟨(.some 8), (.mv (.t 0)), .none⟩, ⟨(.some 9), (.bin .lss
  (.t 8) (.k (.int .i32 1030))), .none⟩, ⟨(.some 7), (.mv (.t 9)), .none⟩]) (.cond (.t 7) (.seq (.reg [⟨(.some 10), (.call (.f 67) []), .none⟩, ⟨(.some 2), (.mv (.t 10)), .none⟩]) .ret) (.seq (.reg
  [⟨(.some 12), (.mv (.t 0)), .none⟩, ⟨(.some 13), (.bin .lss (.t 12) (.k (.int .i32 1617))), .none⟩, ⟨(.some 11), (.mv (.t 13)), .none⟩]) (.cond (.t 11) (.seq (.reg [⟨(.some 14), (.call (.f 68) []),
  .none⟩, ⟨(.some 2), (.mv (.t 14)), .none⟩]) .ret) (.seq (.reg [⟨(.some 16), (.mv (.t 0)), .none⟩, ⟨(.some 17), (.bin .lss (.t 16) (.k (.int .i32 8238))), .none⟩, ⟨(.some 15), (.mv (.t 17)), .none⟩])
  (.cond (.t 15) (.seq (.reg [⟨(.some 18), (.call (.f 69) []), .none⟩, ⟨(.some 2), (.mv (.t 18)), .none⟩]) .ret) .skip))))))))) (.seq (.reg [⟨(.some 19), (.call (.f 70) []), .none⟩, ⟨(.some 2), (.mv (.t
  19)), .none⟩]) .ret)))
theorem c48 : Tryd.f48.body.bind (cCode Tryd.prog 20) = some a48 := by kernel_rfl
theorem r48 : Tryd.f48.results.toList = [(.tmp 2)] := by kernel_rfl
theorem n48 : Tryd.f48.ntmps = 20 := by kernel_rfl
theorem e48 : Enters Tryd.prog 48 := Go.Ab.enters_of Tryd.func48 (by kernel_rfl) (by kernel_rfl)
def a32 : ACode :=
  (.seq (.reg [⟨(.some 1), (.box 21 (.t 0)), .none⟩, ⟨(.some 2), (.alc 65 [(.int .u8 0), (.int .u8 0), (.int .u8 0), (.int .u8 0), (.int .u8 0), (.int .u8 0), (.int .u8 0)]), .none⟩]) (.seq (.reg
  [⟨(.some 5), (.ld .none (.t 1)), .none⟩, ⟨(.some 6), (.call (.f 48) [(.t 5)]), .none⟩, ⟨(.some 3), (.alc 84 [(.slice .none 0 0)]), .none⟩, ⟨.none, (.st 1 (.t 3) (.t 6)), .none⟩]) (.seq (.reg [⟨(.some
  7), (.ld .none (.t 3)), .none⟩, ⟨(.some 8), (.len (.t 7)), .none⟩, ⟨(.some 9), (.mkf (.func 50) [] [(.t 3), (.t 1)]), .none⟩, ⟨(.some 10), (.call (.f 49) [(.t 8), (.t 9)]), .none⟩, ⟨(.some 4), (.mv
  (.t 10)), .none⟩]) (.seq (.seq (.dreg [⟨(.some 11), (.mv (.t 4)), .none⟩, ⟨(.some 12), (.ld .none (.t 3)), .none⟩, ⟨(.some 13), (.len (.t 12)), .none⟩, ⟨(.some 14), (.bin .eql (.t 11) (.t 13)),
  .none⟩, ⟨(.some 15), (.mv (.t 14)), .none⟩, ⟨(.some 16), (.ld .none (.t 1)), (.some (15, false))⟩, ⟨(.some 17), (.ld .none (.t 3)), (.some (15, false))⟩, ⟨(.some 18), (.mv (.t 4)), (.some (15,
  false))⟩, ⟨(.some 19), (.ia 88 (.t 17) (.t 18)), (.some (15, false))⟩, ⟨(.some 20), (.fa 0 (.t 19)), (.some (15, false))⟩, ⟨(.some 21), (.ld .none (.t 20)), (.some (15, false))⟩, ⟨(.some 22), (.bin
  .lss (.t 16) (.t 21)), (.some (15, false))⟩, ⟨(.some 23), (.pick (.t 15) (.k (.bool true)) (.t 22)), .none⟩]) (.cond (.t 23) (.seq (.reg [⟨(.some 24), (.bd [(.int .u8 0), (.int .u8 0), (.int .u8 0),
  (.int .u8 0), (.int .u8 0), (.int .u8 0), (.int .u8 0)] [(6, (1, (.k (.int .u8 1))))]), .none⟩, ⟨.none, (.st 7 (.t 2) (.t 24)), .none⟩]) .ret) .skip)) (.seq (.reg [⟨(.some 25), (.ld .none (.t 3)),
  .none⟩, ⟨(.some 26), (.mv (.t 4)), .none⟩, ⟨(.some 27), (.ia 88 (.t 25) (.t 26)), .none⟩, ⟨(.some 28), (.fa 2 (.t 27)), .none⟩, ⟨(.some 29), (.ld (.some 7) (.t 28)), .none⟩, ⟨.none, (.st 7 (.t 2) (.t
  29)), .none⟩]) .ret)))))
theorem c32 : Tryd.f32.body.bind (cCode Tryd.prog 30) = some a32 := by kernel_rfl
theorem r32 : Tryd.f32.results.toList = [(.cell 2 65)] := by kernel_rfl
theorem n32 : Tryd.f32.ntmps = 30 := by kernel_rfl
theorem e32 : Enters Tryd.prog 32 := Go.Ab.enters_of Tryd.func32 (by kernel_rfl) (by kernel_rfl)

theorem half (i j : Nat) (h : i + j ≤ 9223372036854775807) : IntKind.i64.wrap (Int.fdiv (IntKind.u64.wrap (IntKind.i64.wrap ((i : Int) + j))) 2) = (((i + j) / 2 : Nat) : Int) := by
  rw [wrap_i64 ((i : Int) + j) (by omega) (by omega), IntWalk.u64_in _ (by omega), Int.fdiv_eq_ediv_of_nonneg _ (by omega), wrap_i64] <;> omega

set_option maxRecDepth 10000 in
theorem search_pure {g : FuncId} {first cap : List AV} {n k : Nat} {p : Nat → Bool} (hn : n ≤ 4611686018427387903) (hk : k ≤ n) (h1 : ∀ i, i < k → p i = false) (h2 : ∀ i, k ≤ i → i < n → p i = true)
    (hu : (AV.fn (.func g) first cap).under 0 = true) (hf : ∀ i : Nat, i < n → ∃ args', AV.eraseL (first ++ [.lit (.int .i64 i)] ++ cap) = some args' ∧ Pure Tryd.prog g args' [] (.lit (.bool (p i)))) :
    Pure Tryd.prog 49 [.lit (.int .i64 n), .fn (.func g) first cap] [] (.lit (.int .i64 k)) := by
  refine pure0 Tryd.func49 c49 n49 e49 r49 (by simp) rfl ?_
  simp only [a49, astart, argSlots, go_sem, Nat.reduceAdd, Nat.reduceEqDiff, Nat.reduceLT, reduceIte, reduceCtorEq, Nat.reduceBEq, Int.reduceLT, Int.reduceToNat, Int.reducePow, Nat.reduceLeDiff, Int.reduceLE, Nat.reduceMul, Nat.reduceSub]
  refine ⟨fun s => ∃ i j : Nat, i ≤ k ∧ k ≤ j ∧ j ≤ n ∧ s = ⟨[(1, some (.fn (.func g) first cap)), (5, some (.lit (.int .i64 i))), (6, some (.lit (.int .i64 j)))], [], [], 0⟩, fun s => cnt 6 s - cnt 5 s,
    ⟨_, weak_by [] List.nodup_nil rfl ?_ ?_ ?_ ?_, 0, n, by omega, hk, Nat.le_refl _, rfl⟩, ?_⟩
  · simp only [go_sem, Nat.reduceAdd, Nat.reduceEqDiff, Nat.reduceLT, reduceIte, reduceCtorEq, Nat.reduceBEq, Int.reduceLT, Int.reduceToNat, Int.reducePow, Nat.reduceLeDiff, Int.reduceLE, Nat.reduceMul, Nat.reduceSub, slotsBy, AV.ren_under0 _ _ hu, hu]
    simp only [slotsBy, boxesBy, tipsBy, rawAt, nm, AV.ren, AV.renL, AV.under, AV.underL, List.all_nil, List.all_cons, bne_self_eq_false, List.getD_cons_zero, List.getD_cons_succ, List.length_nil, List.length_cons, and_true, true_and, Int.natCast_zero]
    all_goals simpa [AV.under] using hu
  · trivial
  · trivial
  · simp
  · rintro _ ⟨i, j, hi, hj, hjn, rfl⟩
    simp only [go_sem, Nat.reduceAdd, Nat.reduceEqDiff, Nat.reduceLT, reduceIte, reduceCtorEq, Nat.reduceBEq, Int.reduceLT, Int.reduceToNat, Int.reducePow, Nat.reduceLeDiff, Int.reduceLE, Nat.reduceMul, Nat.reduceSub]
    refine cGo_split (fun h => ?_) (fun h => ?_)
    · simp only [decide_eq_true_eq] at h
      simp only [go_sem, Nat.reduceAdd, Nat.reduceEqDiff, Nat.reduceLT, reduceIte, reduceCtorEq, Nat.reduceBEq, Int.reduceLT, Int.reduceToNat, Int.reducePow, Nat.reduceLeDiff, Int.reduceLE, Nat.reduceMul, Nat.reduceSub, half i j (by omega)]
      obtain ⟨args', ha, hp⟩ := hf ((i + j) / 2) (by omega)
      refine callGo_pure hp ha ?_
      simp only [go_sem, Nat.reduceAdd, Nat.reduceEqDiff, Nat.reduceLT, reduceIte, reduceCtorEq, Nat.reduceBEq, Int.reduceLT, Int.reduceToNat, Int.reducePow, Nat.reduceLeDiff, Int.reduceLE, Nat.reduceMul, Nat.reduceSub, idx, List.nil_append, List.length_nil, Nat.add_zero, AV.shift]
      refine cGo_split (fun h3 => ?_) (fun h3 => ?_)
      · simp only [go_sem, Nat.reduceAdd, Nat.reduceEqDiff, Nat.reduceLT, reduceIte, reduceCtorEq, Nat.reduceBEq, Int.reduceLT, Int.reduceToNat, Int.reducePow, Nat.reduceLeDiff, Int.reduceLE, Nat.reduceMul, Nat.reduceSub]
        simp (disch := omega) only [wrap_i64]
        simp only [Bool.not_eq_true'] at h3
        refine ⟨_, weak_by [] List.nodup_nil rfl ?_ ?_ ?_ ?_, ⟨(i + j) / 2 + 1, j, ?_, hj, hjn, rfl⟩, ?_⟩
        · simp only [go_sem, Nat.reduceAdd, Nat.reduceEqDiff, Nat.reduceLT, reduceIte, reduceCtorEq, Nat.reduceBEq, Int.reduceLT, Int.reduceToNat, Int.reducePow, Nat.reduceLeDiff, Int.reduceLE, Nat.reduceMul, Nat.reduceSub, slotsBy, AV.ren_under0 _ _ hu, hu]
          simp only [slotsBy, boxesBy, tipsBy, rawAt, nm, AV.ren, AV.renL, AV.under, AV.underL, List.all_nil, List.all_cons, bne_self_eq_false, List.getD_cons_zero, List.getD_cons_succ, List.length_nil, List.length_cons, and_true, true_and, Int.natCast_add, Int.natCast_one]
          all_goals simpa [AV.under] using hu
        · trivial
        · trivial
        · simp
        · refine Nat.lt_of_not_le fun hle => ?_
          rw [h2 _ hle (by omega)] at h3; cases h3
        · simp only [cnt, go_sem, Nat.reduceAdd, Nat.reduceEqDiff, Nat.reduceLT, reduceIte, reduceCtorEq, Nat.reduceBEq, Int.reduceLT, Int.reduceToNat, Int.reducePow, Nat.reduceLeDiff, Int.reduceLE, Nat.reduceMul, Nat.reduceSub, Int.toNat_natCast]; omega
      · simp only [go_sem, Nat.reduceAdd, Nat.reduceEqDiff, Nat.reduceLT, reduceIte, reduceCtorEq, Nat.reduceBEq, Int.reduceLT, Int.reduceToNat, Int.reducePow, Nat.reduceLeDiff, Int.reduceLE, Nat.reduceMul, Nat.reduceSub]
        simp only [Bool.not_eq_false'] at h3
        refine ⟨_, weak_by [] List.nodup_nil rfl ?_ ?_ ?_ ?_, ⟨i, (i + j) / 2, hi, ?_, by omega, rfl⟩, ?_⟩
        · simp only [go_sem, Nat.reduceAdd, Nat.reduceEqDiff, Nat.reduceLT, reduceIte, reduceCtorEq, Nat.reduceBEq, Int.reduceLT, Int.reduceToNat, Int.reducePow, Nat.reduceLeDiff, Int.reduceLE, Nat.reduceMul, Nat.reduceSub, slotsBy, AV.ren_under0 _ _ hu, hu]
          simp only [slotsBy, boxesBy, tipsBy, rawAt, nm, AV.ren, AV.renL, AV.under, AV.underL, List.all_nil, List.all_cons, bne_self_eq_false, List.getD_cons_zero, List.getD_cons_succ, List.length_nil, List.length_cons, and_true, true_and]
          all_goals simpa [AV.under] using hu
        · trivial
        · trivial
        · simp
        · refine Nat.le_of_not_lt fun hlt => ?_
          rw [h1 _ hlt] at h3; cases h3
        · simp only [cnt, go_sem, Nat.reduceAdd, Nat.reduceEqDiff, Nat.reduceLT, reduceIte, reduceCtorEq, Nat.reduceBEq, Int.reduceLT, Int.reduceToNat, Int.reducePow, Nat.reduceLeDiff, Int.reduceLE, Nat.reduceMul, Nat.reduceSub, Int.toNat_natCast]; omega
    · simp only [go_sem, Nat.reduceAdd, Nat.reduceEqDiff, Nat.reduceLT, reduceIte, reduceCtorEq, Nat.reduceBEq, Int.reduceLT, Int.reduceToNat, Int.reducePow, Nat.reduceLeDiff, Int.reduceLE, Nat.reduceMul, Nat.reduceSub]
      simp only [Done, resAV, resL, resOne, look_nil, look_cons, Nat.reduceEqDiff, if_true, if_false, reduceIte, ite_true, ite_false, Nat.zero_ne_one, Nat.one_ne_zero, reduceCtorEq, true_or, or_true, true_and, Option.some.injEq, AV.lit.injEq, Value.int.injEq, Value.bool.injEq]
      simp only [decide_eq_false_iff_not] at h
      congr 1; omega
end Go.Proofs.YteekelelcbfekaaDoor

/-! ## Ucd3D -/

namespace Go.Proofs.YteekelelcbfekaaDoor
open Go Go.Ab

/-- A row of the table. -/
structure Row where
  fr : Int
  to : Int
  cat : Int
  bidi : Int
  join : Int
  ccc : Int
  script : Int
  digits : Int
  width : Int
deriving DecidableEq, Inhabited

def Row.prop (x : Row) : List Value := [.int .u8 x.cat, .int .u8 x.bidi, .int .u8 x.join, .int .u8 x.ccc, .int .u8 x.script, .int .u8 x.digits, .int .u8 x.width]
def Row.cells (x : Row) : List Value := [.int .i32 x.fr, .int .i32 x.to, .int .u8 x.cat, .int .u8 x.bidi, .int .u8 x.join, .int .u8 x.ccc, .int .u8 x.script, .int .u8 x.digits, .int .u8 x.width]
def Row.nums (x : Row) : List Value := [.int .i64 x.fr, .int .i64 x.to, .int .i64 x.cat, .int .i64 x.bidi, .int .i64 x.join, .int .i64 x.ccc, .int .i64 x.script, .int .i64 x.digits, .int .i64 x.width]

def readRow : List Value → Row
  | [.int _ a, .int _ b, .int _ c, .int _ d, .int _ e, .int _ f, .int _ g, .int _ h, .int _ i] => ⟨a, b, c, d, e, f, g, h, i⟩
  | _ => default

def t1 : List Row := tb1.map readRow
def t2 : List Row := tb2.map readRow
def t3 : List Row := tb3.map readRow
def t4 : List Row := tb4.map readRow
def t5 : List Row := tb5.map readRow
theorem tb1_eq : tb1 = t1.map Row.cells := by kernel_rfl
theorem tb2_eq : tb2 = t2.map Row.cells := by kernel_rfl
theorem tb3_eq : tb3 = t3.map Row.cells := by kernel_rfl
theorem tb4_eq : tb4 = t4.map Row.cells := by kernel_rfl
theorem tb5_eq : tb5 = t5.map Row.cells := by kernel_rfl
/-- The part of the table in which a code point is. -/
def partOf (r : Int) : List Row := if r < 127 then t1 else if r < 1030 then t2 else if r < 1617 then t3 else if r < 8238 then t4 else t5

def rising : List Row → Bool
  | x :: y :: l => decide (x.fr ≤ x.to) && decide (x.to < y.fr) && rising (y :: l)
  | [x] => decide (x.fr ≤ x.to)
  | [] => true
def octets (x : Row) : Bool := [x.cat, x.bidi, x.join, x.ccc, x.script, x.digits, x.width].all fun n => decide (0 ≤ n) && decide (n ≤ 255)
theorem ok1 : (rising t1 && t1.all octets) = true := by kernel_rfl
theorem ok2 : (rising t2 && t2.all octets) = true := by kernel_rfl
theorem ok3 : (rising t3 && t3.all octets) = true := by kernel_rfl
theorem ok4 : (rising t4 && t4.all octets) = true := by kernel_rfl
theorem ok5 : (rising t5 && t5.all octets) = true := by kernel_rfl
theorem len1 : t1.length = 34 := by kernel_rfl
theorem len2 : t2.length = 34 := by kernel_rfl
theorem len3 : t3.length = 34 := by kernel_rfl
theorem len4 : t4.length = 34 := by kernel_rfl

theorem partOf_cases {p : List Row → Prop} (h1 : p t1) (h2 : p t2) (h3 : p t3) (h4 : p t4) (h5 : p t5) (r : Int) : p (partOf r) := by
  unfold partOf
  split
  · exact h1
  · split
    · exact h2
    · split
      · exact h3
      · split
        · exact h4
        · exact h5

theorem partOf_rising (r : Int) : rising (partOf r) = true := by
  have h := partOf_cases (p := fun l => (rising l && l.all octets) = true) ok1 ok2 ok3 ok4 ok5 r
  simp only [Bool.and_eq_true] at h
  exact h.1
theorem partOf_octets (r : Int) : ∀ x ∈ partOf r, octets x = true := by
  have h := partOf_cases (p := fun l => (rising l && l.all octets) = true) ok1 ok2 ok3 ok4 ok5 r
  simp only [Bool.and_eq_true] at h
  exact List.all_eq_true.1 h.2

theorem rising_lt : ∀ {l : List Row}, rising l = true → ∀ {i j : Nat} {x y : Row}, i < j → l[i]? = some x → l[j]? = some y → x.to < y.fr ∧ x.fr ≤ x.to ∧ y.fr ≤ y.to
  | [], _, i, j, x, y, _, hx, _ => by simp at hx
  | [z], _, i, j, x, y, hij, hx, hy => by
    have := (List.getElem?_eq_some_iff.1 hy).1
    simp at this; omega
  | a :: b :: l, h, i, j, x, y, hij, hx, hy => by
    simp only [rising, Bool.and_eq_true, decide_eq_true_eq] at h
    obtain ⟨⟨h1, h2⟩, h3⟩ := h
    cases j with
    | zero => omega
    | succ j =>
      have hy' : (b :: l)[j]? = some y := by simpa using hy
      cases i with
      | zero =>
        have hxa : a = x := by simpa using hx
        subst hxa
        cases j with
        | zero =>
          have hyb : b = y := by simpa using hy'
          subst hyb
          refine ⟨h2, h1, ?_⟩
          cases l with
          | nil => simpa [rising] using h3
          | cons c l => simp only [rising, Bool.and_eq_true, decide_eq_true_eq] at h3; exact h3.1.1
        | succ j =>
          have := rising_lt h3 (i := 0) (j := j + 1) (x := b) (y := y) (by omega) rfl hy'
          exact ⟨by omega, h1, this.2.2⟩
      | succ i => exact rising_lt h3 (i := i) (j := j) (by omega) (by simpa using hx) hy'

def plainProp : List Value := [.int .u8 0, .int .u8 0, .int .u8 0, .int .u8 0, .int .u8 0, .int .u8 0, .int .u8 1]

/-- Where a code point would be in the table. -/
def place (r : Int) : Nat := (partOf r).findIdx fun x => decide (r ≤ x.to)

/-- What is known of a code point. -/
def rowAt (r : Int) : Row := match (partOf r)[place r]? with
  | some x => if r < x.fr then ⟨0, 0, 0, 0, 0, 0, 0, 0, 1⟩ else x
  | none => ⟨0, 0, 0, 0, 0, 0, 0, 0, 1⟩

theorem cells_get (l : List Row) (i : Nat) : (l.map Row.cells)[i]? = (l[i]?).map Row.cells := by simp

theorem partOf_len (r : Int) : (partOf r).length ≤ 40 := partOf_cases (p := fun l => l.length ≤ 40) (by rw [len1]; omega) (by rw [len2]; omega) (by rw [len3]; omega) (by rw [len4]; omega) (of_decide_eq_true (by kernel_rfl)) r

set_option maxRecDepth 10000 in
theorem part_pure (r : Int) : Pure Tryd.prog 48 [.lit (.int .i32 r)] [88] (.sl 88 ((partOf r).map Row.cells) (some 0)) := by
  refine pure1 Tryd.func48 c48 n48 e48 r48 (by simp) ?_
  simp only [a48, astart, argSlots, go_sem, Nat.reduceAdd, Nat.reduceEqDiff, Nat.reduceLT, reduceIte, reduceCtorEq, Nat.reduceBEq, Int.reduceLT, Int.reduceToNat, Int.reducePow, Nat.reduceLeDiff, Int.reduceLE, Nat.reduceMul, Nat.reduceSub]
  refine cGo_split (fun h1 => ?_) (fun h1 => ?_) <;> simp only [decide_eq_true_eq, decide_eq_false_iff_not] at h1
  · simp only [go_sem, Nat.reduceAdd, Nat.reduceEqDiff, Nat.reduceLT, reduceIte, reduceCtorEq, Nat.reduceBEq, Int.reduceLT, Int.reduceToNat, Int.reducePow, Nat.reduceLeDiff, Int.reduceLE, Nat.reduceMul, Nat.reduceSub, partOf, h1]
    refine callGo_pure part1_pure rfl ?_
    simp only [go_sem, Nat.reduceAdd, Nat.reduceEqDiff, Nat.reduceLT, reduceIte, reduceCtorEq, Nat.reduceBEq, Int.reduceLT, Int.reduceToNat, Int.reducePow, Nat.reduceLeDiff, Int.reduceLE, Nat.reduceMul, Nat.reduceSub, AV.shift, idx, List.nil_append, List.cons_append, List.length_cons, List.length_nil, tb1_eq]
    exact ⟨.inr rfl, 0, by simp only [resAV, resL, resOne, go_sem, Nat.reduceAdd, Nat.reduceEqDiff, Nat.reduceLT, reduceIte, reduceCtorEq, Nat.reduceBEq, Int.reduceLT, Int.reduceToNat, Int.reducePow, Nat.reduceLeDiff, Int.reduceLE, Nat.reduceMul, Nat.reduceSub], by simp [go_sem, Nat.reduceAdd, Nat.reduceEqDiff, Nat.reduceLT, reduceIte, reduceCtorEq, Nat.reduceBEq, Int.reduceLT, Int.reduceToNat, Int.reducePow, Nat.reduceLeDiff, Int.reduceLE, Nat.reduceMul, Nat.reduceSub]⟩
  · simp only [go_sem, Nat.reduceAdd, Nat.reduceEqDiff, Nat.reduceLT, reduceIte, reduceCtorEq, Nat.reduceBEq, Int.reduceLT, Int.reduceToNat, Int.reducePow, Nat.reduceLeDiff, Int.reduceLE, Nat.reduceMul, Nat.reduceSub]
    refine cGo_split (fun h2 => ?_) (fun h2 => ?_) <;> simp only [decide_eq_true_eq, decide_eq_false_iff_not] at h2
    · simp only [go_sem, Nat.reduceAdd, Nat.reduceEqDiff, Nat.reduceLT, reduceIte, reduceCtorEq, Nat.reduceBEq, Int.reduceLT, Int.reduceToNat, Int.reducePow, Nat.reduceLeDiff, Int.reduceLE, Nat.reduceMul, Nat.reduceSub, partOf, h1, h2]
      refine callGo_pure part2_pure rfl ?_
      simp only [go_sem, Nat.reduceAdd, Nat.reduceEqDiff, Nat.reduceLT, reduceIte, reduceCtorEq, Nat.reduceBEq, Int.reduceLT, Int.reduceToNat, Int.reducePow, Nat.reduceLeDiff, Int.reduceLE, Nat.reduceMul, Nat.reduceSub, AV.shift, idx, List.nil_append, List.cons_append, List.length_cons, List.length_nil, tb2_eq]
      exact ⟨.inr rfl, 0, by simp only [resAV, resL, resOne, go_sem, Nat.reduceAdd, Nat.reduceEqDiff, Nat.reduceLT, reduceIte, reduceCtorEq, Nat.reduceBEq, Int.reduceLT, Int.reduceToNat, Int.reducePow, Nat.reduceLeDiff, Int.reduceLE, Nat.reduceMul, Nat.reduceSub], by simp [go_sem, Nat.reduceAdd, Nat.reduceEqDiff, Nat.reduceLT, reduceIte, reduceCtorEq, Nat.reduceBEq, Int.reduceLT, Int.reduceToNat, Int.reducePow, Nat.reduceLeDiff, Int.reduceLE, Nat.reduceMul, Nat.reduceSub]⟩
    · simp only [go_sem, Nat.reduceAdd, Nat.reduceEqDiff, Nat.reduceLT, reduceIte, reduceCtorEq, Nat.reduceBEq, Int.reduceLT, Int.reduceToNat, Int.reducePow, Nat.reduceLeDiff, Int.reduceLE, Nat.reduceMul, Nat.reduceSub]
      refine cGo_split (fun h3 => ?_) (fun h3 => ?_) <;> simp only [decide_eq_true_eq, decide_eq_false_iff_not] at h3
      · simp only [go_sem, Nat.reduceAdd, Nat.reduceEqDiff, Nat.reduceLT, reduceIte, reduceCtorEq, Nat.reduceBEq, Int.reduceLT, Int.reduceToNat, Int.reducePow, Nat.reduceLeDiff, Int.reduceLE, Nat.reduceMul, Nat.reduceSub, partOf, h1, h2, h3]
        refine callGo_pure part3_pure rfl ?_
        simp only [go_sem, Nat.reduceAdd, Nat.reduceEqDiff, Nat.reduceLT, reduceIte, reduceCtorEq, Nat.reduceBEq, Int.reduceLT, Int.reduceToNat, Int.reducePow, Nat.reduceLeDiff, Int.reduceLE, Nat.reduceMul, Nat.reduceSub, AV.shift, idx, List.nil_append, List.cons_append, List.length_cons, List.length_nil, tb3_eq]
        exact ⟨.inr rfl, 0, by simp only [resAV, resL, resOne, go_sem, Nat.reduceAdd, Nat.reduceEqDiff, Nat.reduceLT, reduceIte, reduceCtorEq, Nat.reduceBEq, Int.reduceLT, Int.reduceToNat, Int.reducePow, Nat.reduceLeDiff, Int.reduceLE, Nat.reduceMul, Nat.reduceSub], by simp [go_sem, Nat.reduceAdd, Nat.reduceEqDiff, Nat.reduceLT, reduceIte, reduceCtorEq, Nat.reduceBEq, Int.reduceLT, Int.reduceToNat, Int.reducePow, Nat.reduceLeDiff, Int.reduceLE, Nat.reduceMul, Nat.reduceSub]⟩
      · simp only [go_sem, Nat.reduceAdd, Nat.reduceEqDiff, Nat.reduceLT, reduceIte, reduceCtorEq, Nat.reduceBEq, Int.reduceLT, Int.reduceToNat, Int.reducePow, Nat.reduceLeDiff, Int.reduceLE, Nat.reduceMul, Nat.reduceSub]
        refine cGo_split (fun h4 => ?_) (fun h4 => ?_) <;> simp only [decide_eq_true_eq, decide_eq_false_iff_not] at h4
        · simp only [go_sem, Nat.reduceAdd, Nat.reduceEqDiff, Nat.reduceLT, reduceIte, reduceCtorEq, Nat.reduceBEq, Int.reduceLT, Int.reduceToNat, Int.reducePow, Nat.reduceLeDiff, Int.reduceLE, Nat.reduceMul, Nat.reduceSub, partOf, h1, h2, h3, h4]
          refine callGo_pure part4_pure rfl ?_
          simp only [go_sem, Nat.reduceAdd, Nat.reduceEqDiff, Nat.reduceLT, reduceIte, reduceCtorEq, Nat.reduceBEq, Int.reduceLT, Int.reduceToNat, Int.reducePow, Nat.reduceLeDiff, Int.reduceLE, Nat.reduceMul, Nat.reduceSub, AV.shift, idx, List.nil_append, List.cons_append, List.length_cons, List.length_nil, tb4_eq]
          exact ⟨.inr rfl, 0, by simp only [resAV, resL, resOne, go_sem, Nat.reduceAdd, Nat.reduceEqDiff, Nat.reduceLT, reduceIte, reduceCtorEq, Nat.reduceBEq, Int.reduceLT, Int.reduceToNat, Int.reducePow, Nat.reduceLeDiff, Int.reduceLE, Nat.reduceMul, Nat.reduceSub], by simp [go_sem, Nat.reduceAdd, Nat.reduceEqDiff, Nat.reduceLT, reduceIte, reduceCtorEq, Nat.reduceBEq, Int.reduceLT, Int.reduceToNat, Int.reducePow, Nat.reduceLeDiff, Int.reduceLE, Nat.reduceMul, Nat.reduceSub]⟩
        · simp only [go_sem, Nat.reduceAdd, Nat.reduceEqDiff, Nat.reduceLT, reduceIte, reduceCtorEq, Nat.reduceBEq, Int.reduceLT, Int.reduceToNat, Int.reducePow, Nat.reduceLeDiff, Int.reduceLE, Nat.reduceMul, Nat.reduceSub, partOf, h1, h2, h3, h4]
          refine callGo_pure part5_pure rfl ?_
          simp only [go_sem, Nat.reduceAdd, Nat.reduceEqDiff, Nat.reduceLT, reduceIte, reduceCtorEq, Nat.reduceBEq, Int.reduceLT, Int.reduceToNat, Int.reducePow, Nat.reduceLeDiff, Int.reduceLE, Nat.reduceMul, Nat.reduceSub, AV.shift, idx, List.nil_append, List.cons_append, List.length_cons, List.length_nil, tb5_eq]
          exact ⟨.inr rfl, 0, by simp only [resAV, resL, resOne, go_sem, Nat.reduceAdd, Nat.reduceEqDiff, Nat.reduceLT, reduceIte, reduceCtorEq, Nat.reduceBEq, Int.reduceLT, Int.reduceToNat, Int.reducePow, Nat.reduceLeDiff, Int.reduceLE, Nat.reduceMul, Nat.reduceSub], by simp [go_sem, Nat.reduceAdd, Nat.reduceEqDiff, Nat.reduceLT, reduceIte, reduceCtorEq, Nat.reduceBEq, Int.reduceLT, Int.reduceToNat, Int.reducePow, Nat.reduceLeDiff, Int.reduceLE, Nat.reduceMul, Nat.reduceSub]⟩

set_option maxRecDepth 10000 in
theorem of1_pure (l : List Row) (r : Int) (i : Nat) {x : Row} (hx : l[i]? = some x) : Pure Tryd.prog 50 [.lit (.int .i64 i), .ep [.sl 88 (l.map Row.cells) none], .ep [.lit (.int .i32 r)]] [] (.lit (.bool (decide (r ≤ x.to)))) := by
  refine pure0 Tryd.func50 c50 n50 e50 r50 (by simp) rfl ?_
  simp only [a50, astart, argSlots, go_sem, Nat.reduceAdd, Nat.reduceEqDiff, Nat.reduceLT, reduceIte, reduceCtorEq, Nat.reduceBEq, Int.reduceLT, Int.reduceToNat, Int.reducePow, Nat.reduceLeDiff, Int.reduceLE, Nat.reduceMul, Nat.reduceSub, List.getElem?_cons_zero, List.getElem?_cons_succ, Int.natCast_nonneg, Int.toNat_natCast, cells_get, hx, Row.cells, List.map_cons, List.map_nil, List.drop_succ_cons, List.drop_zero]
  simp only [Done, resAV, resL, resOne, look_nil, look_cons, Nat.reduceEqDiff, if_true, if_false, reduceIte, ite_true, ite_false, Nat.zero_ne_one, Nat.one_ne_zero, reduceCtorEq, true_or, or_true, true_and, Option.some.injEq, AV.lit.injEq, Value.int.injEq, Value.bool.injEq]

theorem place_le (r : Int) : place r ≤ (partOf r).length := List.findIdx_le_length
theorem place_lt {r : Int} {i : Nat} (h : i < place r) {x : Row} (hx : (partOf r)[i]? = some x) : decide (r ≤ x.to) = false := by
  have h1 := List.not_of_lt_findIdx h
  have hlt : i < (partOf r).length := Nat.lt_of_lt_of_le h (place_le r)
  rw [List.getElem?_eq_getElem hlt, Option.some.injEq] at hx
  subst hx
  simpa using h1
theorem place_ge {r : Int} {i : Nat} (h : place r ≤ i) {x : Row} (hx : (partOf r)[i]? = some x) : decide (r ≤ x.to) = true := by
  have hlt : i < (partOf r).length := (List.getElem?_eq_some_iff.1 hx).1
  have hp : place r < (partOf r).length := Nat.lt_of_le_of_lt h hlt
  have h1 := List.findIdx_getElem (w := hp)
  have hy : (partOf r)[place r]? = some (partOf r)[place r] := List.getElem?_eq_getElem hp
  simp only [decide_eq_true_eq] at h1 ⊢
  rcases Nat.lt_or_eq_of_le h with hl | he
  · have := rising_lt (partOf_rising r) hl hy hx
    have h2 : r ≤ ((partOf r)[place r]).to := h1
    omega
  · subst he
    rw [hy, Option.some.injEq] at hx
    subst hx
    exact h1

theorem prop_info : (Tryd.prog.info? 65).map (·.size) = some 7 := by kernel_rfl
theorem prop_agg : aggB Tryd.prog 65 = true := by kernel_rfl

set_option maxRecDepth 10000 in
theorem of_pure (r : Int) : Pure Tryd.prog 32 [.lit (.int .i32 r)] [] (.ag ((rowAt r).prop.map .lit)) := by
  refine pure0 Tryd.func32 c32 n32 e32 r32 (by simp) (by simp [AV.under, AV.underL, Row.prop]) ?_
  simp only [a32, astart, argSlots, go_sem, Nat.reduceAdd, Nat.reduceEqDiff, Nat.reduceLT, reduceIte, reduceCtorEq, Nat.reduceBEq, Int.reduceLT, Int.reduceToNat, Int.reducePow, Nat.reduceLeDiff, Int.reduceLE, Nat.reduceMul, Nat.reduceSub]
  refine callGo_pure (part_pure r) (by rfl) ?_
  simp only [go_sem, Nat.reduceAdd, Nat.reduceEqDiff, Nat.reduceLT, reduceIte, reduceCtorEq, Nat.reduceBEq, Int.reduceLT, Int.reduceToNat, Int.reducePow, Nat.reduceLeDiff, Int.reduceLE, Nat.reduceMul, Nat.reduceSub]
  refine callGo_see (search_pure (g := 50) (first := []) (cap := [.ep [.sl 88 ((partOf r).map Row.cells) none], .ep [.lit (.int .i32 r)]]) (n := (partOf r).length) (k := place r) (p := fun i => ((partOf r)[i]?).elim true fun x => decide (r ≤ x.to)) (by have := partOf_len r; omega) (place_le r) ?_ ?_ rfl ?_) ?_ rfl ?_
  · intro i hi
    have hlt : i < (partOf r).length := Nat.lt_of_lt_of_le hi (place_le r)
    have hx := List.getElem?_eq_getElem hlt
    simp only [hx, Option.elim_some]
    exact place_lt hi hx
  · intro i hi hlt
    have hx := List.getElem?_eq_getElem hlt
    simp only [hx, Option.elim_some]
    exact place_ge hi hx
  · intro i hlt
    have hx := List.getElem?_eq_getElem hlt
    refine ⟨_, rfl, ?_⟩
    simp only [hx, Option.elim_some]
    exact of1_pure _ r i hx
  · simp only [List.length_map]
    rfl
  · simp only [go_sem, Nat.reduceAdd, Nat.reduceEqDiff, Nat.reduceLT, reduceIte, reduceCtorEq, Nat.reduceBEq, Int.reduceLT, Int.reduceToNat, Int.reducePow, Nat.reduceLeDiff, Int.reduceLE, Nat.reduceMul, Nat.reduceSub, List.length_map, Int.natCast_nonneg, Int.toNat_natCast]
    rcases Nat.lt_or_eq_of_le (place_le r) with hl | he
    · have hx := List.getElem?_eq_getElem hl
      have hb : (((place r : Nat) : Int) == ((partOf r).length : Int)) = false := by simp only [beq_eq_false_iff_ne, ne_eq]; omega
      have hrow : rowAt r = if r < ((partOf r)[place r]).fr then ⟨0, 0, 0, 0, 0, 0, 0, 0, 1⟩ else (partOf r)[place r] := by simp only [rowAt, hx]
      generalize (partOf r)[place r] = x at hx hrow
      simp only [go_sem, Nat.reduceAdd, Nat.reduceEqDiff, Nat.reduceLT, reduceIte, reduceCtorEq, Nat.reduceBEq, Int.reduceLT, Int.reduceToNat, Int.reducePow, Nat.reduceLeDiff, Int.reduceLE, Nat.reduceMul, Nat.reduceSub, hb, List.length_map, Int.natCast_nonneg, Int.toNat_natCast, cells_get, hx, Row.cells]
      refine cGo_split (fun h => ?_) (fun h => ?_)
      · simp only [go_sem, Nat.reduceAdd, Nat.reduceEqDiff, Nat.reduceLT, reduceIte, reduceCtorEq, Nat.reduceBEq, Int.reduceLT, Int.reduceToNat, Int.reducePow, Nat.reduceLeDiff, Int.reduceLE, Nat.reduceMul, Nat.reduceSub]
        refine ⟨.inr rfl, resAV_one (resOne_ag (id := 1) prop_info prop_agg (by simp only [go_sem, Nat.reduceAdd, Nat.reduceEqDiff, Nat.reduceLT, reduceIte, reduceCtorEq, Nat.reduceBEq, Int.reduceLT, Int.reduceToNat, Int.reducePow, Nat.reduceLeDiff, Int.reduceLE, Nat.reduceMul, Nat.reduceSub]) (by simp only [go_sem, Nat.reduceAdd, Nat.reduceEqDiff, Nat.reduceLT, reduceIte, reduceCtorEq, Nat.reduceBEq, Int.reduceLT, Int.reduceToNat, Int.reducePow, Nat.reduceLeDiff, Int.reduceLE, Nat.reduceMul, Nat.reduceSub]; rfl) rfl) |>.trans ?_⟩
        simp only [decide_eq_true_eq] at h
        rw [hrow, if_pos h]; rfl
      · simp only [go_sem, Nat.reduceAdd, Nat.reduceEqDiff, Nat.reduceLT, reduceIte, reduceCtorEq, Nat.reduceBEq, Int.reduceLT, Int.reduceToNat, Int.reducePow, Nat.reduceLeDiff, Int.reduceLE, Nat.reduceMul, Nat.reduceSub, Int.natCast_nonneg, Int.toNat_natCast, cells_get, hx, Row.cells]
        refine ⟨.inr rfl, resAV_one (resOne_ag (id := 1) prop_info prop_agg (by simp only [go_sem, Nat.reduceAdd, Nat.reduceEqDiff, Nat.reduceLT, reduceIte, reduceCtorEq, Nat.reduceBEq, Int.reduceLT, Int.reduceToNat, Int.reducePow, Nat.reduceLeDiff, Int.reduceLE, Nat.reduceMul, Nat.reduceSub]) (by simp only [go_sem, Nat.reduceAdd, Nat.reduceEqDiff, Nat.reduceLT, reduceIte, reduceCtorEq, Nat.reduceBEq, Int.reduceLT, Int.reduceToNat, Int.reducePow, Nat.reduceLeDiff, Int.reduceLE, Nat.reduceMul, Nat.reduceSub]; rfl) rfl) |>.trans ?_⟩
        simp only [decide_eq_false_iff_not] at h
        rw [hrow, if_neg h]; rfl
    · have hb : (((place r : Nat) : Int) == ((partOf r).length : Int)) = true := by rw [he]; simp
      have hx : (partOf r)[place r]? = none := List.getElem?_eq_none (by omega)
      have hrow : rowAt r = ⟨0, 0, 0, 0, 0, 0, 0, 0, 1⟩ := by simp only [rowAt, hx]
      simp only [go_sem, Nat.reduceAdd, Nat.reduceEqDiff, Nat.reduceLT, reduceIte, reduceCtorEq, Nat.reduceBEq, Int.reduceLT, Int.reduceToNat, Int.reducePow, Nat.reduceLeDiff, Int.reduceLE, Nat.reduceMul, Nat.reduceSub, hb]
      refine ⟨.inr rfl, resAV_one (resOne_ag (id := 1) prop_info prop_agg (by simp only [go_sem, Nat.reduceAdd, Nat.reduceEqDiff, Nat.reduceLT, reduceIte, reduceCtorEq, Nat.reduceBEq, Int.reduceLT, Int.reduceToNat, Int.reducePow, Nat.reduceLeDiff, Int.reduceLE, Nat.reduceMul, Nat.reduceSub]) (by simp only [go_sem, Nat.reduceAdd, Nat.reduceEqDiff, Nat.reduceLT, reduceIte, reduceCtorEq, Nat.reduceBEq, Int.reduceLT, Int.reduceToNat, Int.reducePow, Nat.reduceLeDiff, Int.reduceLE, Nat.reduceMul, Nat.reduceSub]; rfl) rfl) |>.trans ?_⟩
      rw [hrow]; rfl
end Go.Proofs.YteekelelcbfekaaDoor

/-! ## Ucd4D -/

namespace Go.Proofs.YteekelelcbfekaaDoor
open Go Go.Ab
theorem rowAt_in {r : Int} {i : Nat} {x : Row} (hx : (partOf r)[i]? = some x) (h1 : x.fr ≤ r) (h2 : r ≤ x.to) : rowAt r = x := by
  have hle : place r ≤ i := Nat.le_of_not_lt fun h => by
    have := place_lt h hx
    simp only [decide_eq_false_iff_not] at this
    exact this h2
  have hlt : i < (partOf r).length := (List.getElem?_eq_some_iff.1 hx).1
  have hy := List.getElem?_eq_getElem (Nat.lt_of_le_of_lt hle hlt)
  rcases Nat.lt_or_eq_of_le hle with h | h
  · have h3 := place_ge (Nat.le_refl _) hy
    have h4 := rising_lt (partOf_rising r) h hy hx
    simp only [decide_eq_true_eq] at h3
    omega
  · subst h
    simp only [rowAt, hx]
    rw [if_neg (by omega)]

theorem rowAt_out {r : Int} (h : ∀ (i : Nat) (x : Row), (partOf r)[i]? = some x → ¬(x.fr ≤ r ∧ r ≤ x.to)) : rowAt r = ⟨0, 0, 0, 0, 0, 0, 0, 0, 1⟩ := by
  unfold rowAt
  split
  · rename_i x hx
    have h3 := place_ge (Nat.le_refl _) hx
    simp only [decide_eq_true_eq] at h3
    rw [if_pos]
    have := h _ x hx
    omega
  · rfl

def plainZero : List AV := [.lit (.int .u8 0), .lit (.int .u8 0), .lit (.int .u8 0), .lit (.int .u8 0), .lit (.int .u8 0), .lit (.int .u8 0), .lit (.int .u8 0)]
theorem nums_get (l : List Row) (i : Nat) : (l.map Row.nums)[i]? = (l[i]?).map Row.nums := by simp

theorem octets_in {x : Row} (h : octets x = true) : (0 ≤ x.cat ∧ x.cat ≤ 255) ∧ (0 ≤ x.bidi ∧ x.bidi ≤ 255) ∧ (0 ≤ x.join ∧ x.join ≤ 255) ∧ (0 ≤ x.ccc ∧ x.ccc ≤ 255) ∧ (0 ≤ x.script ∧ x.script ≤ 255) ∧ (0 ≤ x.digits ∧ x.digits ≤ 255) ∧ 0 ≤ x.width ∧ x.width ≤ 255 := by
  simpa [octets] using h

end Go.Proofs.YteekelelcbfekaaDoor
