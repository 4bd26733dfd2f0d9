/-
Texts as rows of bytes. Conditions: none.
-/
import Derived.Test.YtmhpjoadfgplgaaBas
set_option linter.unusedSimpArgs false
set_option linter.unusedVariables false
set_option linter.unusedSectionVars false
namespace Go.Proofs.Ytmhpjoadfgplgaa
open Go Go.Ab

/-- A text of bytes. -/
def txt (b : List Nat) : ByteArray := ⟨(b.map fun n => UInt8.ofNat n).toArray⟩
theorem txt_size (b : List Nat) : (txt b).size = b.length := by simp [txt, ByteArray.size]
theorem txt_nil : txt [] = ⟨#[]⟩ := rfl
theorem txt_get {b : List Nat} {i : Nat} (h : i < b.length) : (txt b)[i]? = some (UInt8.ofNat b[i]) := by
  rw [getElem?_pos (txt b) i (by rw [txt_size]; exact h)]
  simp [txt, ByteArray.getElem_eq_getElem_data]
theorem u8_nat {n : Nat} (h : n ≤ 255) : ((UInt8.ofNat n).toNat : Int) = (n : Int) := by simp; omega
theorem txt_slice (b : List Nat) (l u : Nat) : (txt b).extract l u = txt ((b.take u).drop l) := by
  apply ByteArray.ext
  rw [ByteArray.data_extract]
  simp only [txt, List.extract_toArray, List.extract_eq_take_drop, List.map_drop, List.map_take]
  congr 1
  rw [List.drop_take]
theorem u8_round : ∀ l : List UInt8, (l.map fun u => u.toNat).map (fun n => UInt8.ofNat n) = l
  | [] => rfl
  | u :: l => by rw [List.map_cons, List.map_cons, u8_round l, UInt8.ofNat_toNat]
theorem txt_of (s : ByteArray) : ∃ b : List Nat, s = txt b ∧ (∀ n ∈ b, n ≤ 255) ∧ b.length = s.size := by
  refine ⟨s.data.toList.map fun u => u.toNat, ?_, ?_, by rw [List.length_map]; rfl⟩
  · apply ByteArray.ext
    show s.data = _
    simp only [txt, u8_round]
  · intro n hn
    simp only [List.mem_map] at hn
    obtain ⟨u, _, rfl⟩ := hn
    have := u.toNat_lt
    omega

theorem txt_ne {b : List Nat} : ((txt b).toList == (⟨#[]⟩ : ByteArray).toList) = decide (b = []) := by
  rw [txt, ByteArray.toList_mk, ByteArray.toList_mk]
  cases b with
  | nil => rfl
  | cons a t => simp
theorem txt_tail (b : List Nat) (k : Nat) : (txt b).extract k b.length = txt (b.drop k) := by rw [txt_slice, List.take_length]
theorem u8_int {n : Nat} (h : n ≤ 255) : (((UInt8.ofNat n).toNat : Nat) : Int) = (n : Int) := u8_nat h
theorem txt_append (a b : List Nat) : txt a ++ txt b = txt (a ++ b) := by
  apply ByteArray.ext
  simp [txt, ByteArray.data_append]
end Go.Proofs.Ytmhpjoadfgplgaa
