/-
Numbers of the machine: bits, wraps. Conditions: none.
-/
import Derived.Test.YteekelelcbfekaaDoorAbGlue
set_option linter.unusedSimpArgs false
set_option linter.unusedVariables false
set_option linter.unusedSectionVars false
namespace Go.Ab
open Go
theorem wrap_u32 (n : Nat) (h : n < 4294967296) : IntKind.u32.wrap (n : Int) = n := by
  simp only [IntKind.wrap, IntKind.bits, IntKind.signed]
  simp
  omega
theorem orI_u32 (s t : Nat) (hs : s < 4294967296) (ht : t < 4294967296) : orI .u32 s t = ((s ||| t : Nat) : Int) := by
  have h : s ||| t < 2 ^ 32 := Nat.or_lt_two_pow (by simpa using hs) (by simpa using ht)
  have e : (BitVec.ofInt 32 (s : Int) ||| BitVec.ofInt 32 (t : Int)).toNat = s ||| t := by
    rw [BitVec.toNat_or]
    simp only [BitVec.ofInt_natCast, BitVec.toNat_ofNat]
    rw [Nat.mod_eq_of_lt (by simpa using hs), Nat.mod_eq_of_lt (by simpa using ht)]
  show IntKind.u32.wrap (((BitVec.ofInt 32 (s : Int) ||| BitVec.ofInt 32 (t : Int)).toNat : Nat) : Int) = _
  rw [e]
  exact wrap_u32 _ (by simpa using h)
end Go.Ab
