/-
Small things that the texts share: rows of numbers as cells, bits. Conditions: none.
-/
import Derived.Test.YtmhpjoadfgplgaaAbSet
import Derived.Test.YtmhpjoadfgplgaaProg
import Derived.KernelRfl
set_option linter.unusedSimpArgs false
set_option linter.unusedVariables false
set_option linter.unusedSectionVars false
namespace Go.Proofs.Ytmhpjoadfgplgaa
open Go Go.Ab

/-- A label as cells. -/
def runes (l : List Int) : List (List Value) := l.map fun n => [.int .i32 n]
theorem runes_length (l : List Int) : (runes l).length = l.length := by simp [runes]
theorem runes_get (l : List Int) (i : Nat) (h : i < l.length) : (runes l)[i]? = some [.int .i32 l[i]] := by simp [runes, h]
/-- Values of the kind. -/
def I32 (l : List Int) : Prop := ∀ n ∈ l, -2147483648 ≤ n ∧ n ≤ 2147483647
/-- A label that is handed in. -/
def Runes (l : List Int) : Prop := l.length ≤ 35184372088064 ∧ I32 l
/-- Bytes as cells. -/
def octs (l : List Nat) : List (List Value) := l.map fun (n : Nat) => [.int .u8 (n : Int)]
theorem octs_length (l : List Nat) : (octs l).length = l.length := by simp [octs]
theorem octs_get (l : List Nat) (i : Nat) (h : i < l.length) : (octs l)[i]? = some [.int .u8 (l[i] : Int)] := by simp [octs, h]
/-- Bytes that are handed in. -/
def Octs (l : List Nat) : Prop := l.length ≤ 140737488351232 ∧ ∀ n ∈ l, n ≤ 255
theorem octs_of (z : List Int) (h : ∀ n ∈ z, 0 ≤ n ∧ n ≤ 255) : ∃ y : List Nat, (z.map fun n => [Value.int .u8 n]) = octs y ∧ (∀ n ∈ y, n ≤ 255) ∧ y.length = z.length := by
  refine ⟨z.map Int.toNat, ?_, ?_, by simp⟩
  · simp only [octs, List.map_map]
    refine List.map_congr_left fun n hn => ?_
    simp only [Function.comp, Int.toNat_of_nonneg (h n hn).1]
  · intro n hn
    obtain ⟨m, hm, rfl⟩ := List.mem_map.1 hn
    have := h m hm
    omega
theorem octs_append (a b : List Nat) : octs (a ++ b) = octs a ++ octs b := by simp [octs]
theorem runes_append (a b : List Int) : runes (a ++ b) = runes a ++ runes b := by simp [runes]
theorem octs_take (l : List Nat) (k : Nat) : (octs l).take k = octs (l.take k) := by simp [octs]
theorem octs_drop (l : List Nat) (k : Nat) : (octs l).drop k = octs (l.drop k) := by simp [octs]
theorem runes_take (l : List Int) (k : Nat) : (runes l).take k = runes (l.take k) := by simp [runes]
theorem runes_drop (l : List Int) (k : Nat) : (runes l).drop k = runes (l.drop k) := by simp [runes]

theorem dec_lt {i n : Nat} (h : i < n) : decide ((i : Int) < (n : Int)) = true := by simp only [decide_eq_true_eq]; omega
theorem dec_irr (n : Int) : decide (n < n) = false := by simp
theorem dec_nonneg (n : Nat) : decide ((n : Int) ≥ 0) = true := by simp
attribute [go_sem] runes_length octs_length dec_irr dec_nonneg Int.toNat_natCast Int.natCast_nonneg

/-- A call, by what is known of it. -/
theorem callGo_ok {P : Program} {g : FuncId} {xs : List AV} {sl : List (Nat × Option AV)} {bx : List (Nat × List AV)} {tp : List (Nat × TypeId)} {nx : Nat} {d : Option Nat} {K : State → Prop}
    (h : CallOK P g xs bx tp nx fun r bx tp nx => K (State.put ⟨sl, bx, tp, nx⟩ d r)) : callGo P (some (.fn (.func g) [] [])) (some xs) d ⟨sl, bx, tp, nx⟩ K := by
  simpa [callGo] using h

/-! ### Bits -/

theorem andI_u8 (s t : Nat) (hs : s < 256) (ht : t < 256) : andI .u8 s t = ((s &&& t : Nat) : Int) := by
  have h : s &&& t < 256 := Nat.lt_of_le_of_lt Nat.and_le_left hs
  have e : (BitVec.ofInt 8 (s : Int) &&& BitVec.ofInt 8 (t : Int)).toNat = s &&& t := by
    rw [BitVec.toNat_and]
    simp only [BitVec.ofInt_natCast, BitVec.toNat_ofNat]
    rw [Nat.mod_eq_of_lt (by simpa using hs), Nat.mod_eq_of_lt (by simpa using ht)]
  show IntKind.u8.wrap (((BitVec.ofInt 8 (s : Int) &&& BitVec.ofInt 8 (t : Int)).toNat : Nat) : Int) = _
  rw [e]
  exact wrap_u8 _ (by omega) (by omega)
theorem orI_u8 (s t : Nat) (hs : s < 256) (ht : t < 256) : orI .u8 s t = ((s ||| t : Nat) : Int) := by
  have h : s ||| t < 2 ^ 8 := Nat.or_lt_two_pow (by simpa using hs) (by simpa using ht)
  have e : (BitVec.ofInt 8 (s : Int) ||| BitVec.ofInt 8 (t : Int)).toNat = s ||| t := by
    rw [BitVec.toNat_or]
    simp only [BitVec.ofInt_natCast, BitVec.toNat_ofNat]
    rw [Nat.mod_eq_of_lt (by simpa using hs), Nat.mod_eq_of_lt (by simpa using ht)]
  show IntKind.u8.wrap (((BitVec.ofInt 8 (s : Int) ||| BitVec.ofInt 8 (t : Int)).toNat : Nat) : Int) = _
  rw [e]
  exact wrap_u8 _ (by omega) (by omega)
theorem orI_i32 (s t : Nat) (hs : s < 2147483648) (ht : t < 2147483648) : orI .i32 s t = ((s ||| t : Nat) : Int) := by
  have h : s ||| t < 2 ^ 31 := Nat.or_lt_two_pow (by simpa using hs) (by simpa using ht)
  have e : (BitVec.ofInt 32 (s : Int) ||| BitVec.ofInt 32 (t : Int)).toNat = s ||| t := by
    rw [BitVec.toNat_or]
    simp only [BitVec.ofInt_natCast, BitVec.toNat_ofNat]
    rw [Nat.mod_eq_of_lt (by omega), Nat.mod_eq_of_lt (by omega)]
  show IntKind.i32.wrap (((BitVec.ofInt 32 (s : Int) ||| BitVec.ofInt 32 (t : Int)).toNat : Nat) : Int) = _
  rw [e]
  exact wrap_i32 _ (by omega) (by omega)
theorem and_63 (n : Nat) : n &&& 63 = n % 64 := Nat.and_two_pow_sub_one_eq_mod n 6
theorem and_31 (n : Nat) : n &&& 31 = n % 32 := Nat.and_two_pow_sub_one_eq_mod n 5
theorem and_15 (n : Nat) : n &&& 15 = n % 16 := Nat.and_two_pow_sub_one_eq_mod n 4
theorem and_7 (n : Nat) : n &&& 7 = n % 8 := Nat.and_two_pow_sub_one_eq_mod n 3
theorem or_64 (a b : Nat) (h : b < 64) : a * 64 ||| b = a * 64 + b := by
  have := Nat.shiftLeft_add_eq_or_of_lt (i := 6) (b := b) (by omega) a
  rw [Nat.shiftLeft_eq] at this
  exact this.symm
theorem or_low {k a b : Nat} (h : b < 2 ^ k) : a * 2 ^ k ||| b = a * 2 ^ k + b := by
  have := Nat.shiftLeft_add_eq_or_of_lt (i := k) (b := b) h a
  rw [Nat.shiftLeft_eq] at this
  exact this.symm
end Go.Proofs.Ytmhpjoadfgplgaa
