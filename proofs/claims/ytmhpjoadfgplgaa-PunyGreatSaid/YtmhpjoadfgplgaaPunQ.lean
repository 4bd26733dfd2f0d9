/-
Insert, of a row that may be written. Conditions: none.
-/
import Derived.Test.YtmhpjoadfgplgaaPunP
set_option linter.unusedSimpArgs false
set_option linter.unusedVariables false
set_option linter.unusedSectionVars false
namespace Go.Proofs.Ytmhpjoadfgplgaa
open Go Go.Ab Go.RowKit

/-- Cells that are written, as a row. -/
theorem setCells_row {b : Nat} {t : TypeId} {fr : Nat × Nat} : ∀ (vs : List Value) (o : Nat) (w : World) (arr : Array Value), w.heap[b]? = some (.cells arr t fr) → o + vs.length ≤ arr.size →
    w.setCells b o vs = w.setRow b (arr.toList.take o ++ vs ++ arr.toList.drop (o + vs.length)).toArray
  | [], o, w, arr, h, _ => by
    simp only [World.setCells, List.length_nil, Nat.add_zero, List.append_nil, List.take_append_drop, Array.toArray_toList]
    exact (setRow_self w b arr t fr h).symm
  | v :: r, o, w, arr, h, hl => by
    simp only [List.length_cons] at hl
    have hlen : (arr.setIfInBounds o v).size = arr.size := by simp
    rw [World.setCells, setCell_row o v h, setCells_row r (o + 1) _ (arr.setIfInBounds o v) (setRow_heap w b _ _ _ _ h) (by rw [hlen]; omega), setRow_setRow]
    congr 2
    have e : (arr.setIfInBounds o v).toList = arr.toList.set o v := by simp
    rw [e, List.take_succ_eq_append_getElem (by rw [List.length_set, Array.length_toList]; omega), List.getElem_set_self, List.take_set_of_le (Nat.le_refl _), List.drop_set_of_lt (by omega), List.length_cons, List.append_assoc, List.append_assoc]
    simp only [List.singleton_append, List.cons_append]
    rw [show o + 1 + r.length = o + (r.length + 1) by omega, List.append_assoc]
    rfl

/-- Cells of a row. -/
def cI (xs : List Int) : List AV := xs.map fun n => .lit (.int .i32 n)
def vI (xs : List Int) : List Value := xs.map fun n => .int .i32 n
theorem cI_vI (xs : List Int) : cI xs = (vI xs).map .lit := by simp [cI, vI]
theorem cI_length (xs : List Int) : (cI xs).length = xs.length := by simp [cI]
theorem vI_length (xs : List Int) : (vI xs).length = xs.length := by simp [vI]
theorem vI_one (xs : List Int) : ∀ v ∈ vI xs, v.oneCell' = true := fun v hv => by
  obtain ⟨n, _, rfl⟩ := List.mem_map.1 hv; rfl
theorem cells32 : Try.prog.cellsOf 21 = 1 := by kernel_rfl

section
variable {c : Ctx} {w : World} {bx : List (Nat × List AV)} {tp : List (Nat × TypeId)}
/-- A row written in place, under a new name. -/
theorem fin_place (hm : Mem Try.prog c bx tp w) {id : Nat} {cells : List AV} (hmem : (id, cells) ∈ bx) {arr arr2 : Array Value} (hrow : w.heap[c.β id]? = some (.cells arr 21 (0, 0))) (hs : arr2.size = arr.size) {ys : List Int} (hy : arr2.toList.take ys.length = vI ys) (hle : ys.length ≤ arr.size) (hcm : arr.size ≤ maxLen) :
    ∃ c', Ext c.next c w c' (w.setRow (c.β id) arr2) ∧ c'.next = c.next + 1 ∧ c'.floor = c.floor ∧ Mem Try.prog c' ((c.next, cI ys) :: delBox bx id) tp (w.setRow (c.β id) arr2) ∧
      Rep Try.prog c' (w.setRow (c.β id) arr2) (.rf (.row 21 1 0 ys.length) c.next) (.slice (some ⟨c.β id, 0, none⟩) ys.length arr.size) := by
  have hX := Ext.setRow c.next c w (c.β id) arr2 hrow hs (hm.boxes _ hmem).free
  have hM := hm.setRow (cells' := cI ys) hmem hrow hs (by rw [cI_length, hy, cI_vI]; exact RepL.lits _)
  have hmem2 : (id, cI ys) ∈ setBox bx id (cI ys) := setBox_at hmem
  obtain ⟨q1, q2⟩ := hM.moveBox hmem2
  rw [delBox_setBox] at q2
  refine ⟨c.newBox (c.β id), hX.trans q1, rfl, rfl, q2, ?_⟩
  simp only [Rep]
  refine ⟨Nat.lt_succ_self _, 0, arr.size, arr2, by simp [Ctx.newBox], .inl rfl, hle, hcm, cells32.symm, by omega, ⟨(0, 0), ?_⟩, by omega, fun _ => ⟨rfl, by omega⟩⟩
  have : (c.newBox (c.β id)).β c.next = c.β id := by simp [Ctx.newBox]
  rw [this]
  exact setRow_heap w _ _ _ _ _ hrow

/-- A row laid anew. -/
theorem fin_new (hm : Mem Try.prog c bx tp w) (id : Nat) {arr : Array Value} {ys : List Int} (hy : arr.toList.take ys.length = vI ys) (hle : ys.length ≤ arr.size) (hcm : arr.size ≤ maxLen) :
    ∃ c', Ext c.next c w c' (w.alloc (.cells arr 21 (0, 0))) ∧ c'.next = c.next + 1 ∧ c'.floor = c.floor ∧ Mem Try.prog c' ((c.next, cI ys) :: delBox bx id) tp (w.alloc (.cells arr 21 (0, 0))) ∧
      Rep Try.prog c' (w.alloc (.cells arr 21 (0, 0))) (.rf (.row 21 1 0 ys.length) c.next) (.slice (some ⟨w.heap.size, 0, none⟩) ys.length arr.size) := by
  have hM := (hm.forget (delBox_sub bx id) (List.Sublist.refl _)).newOb (cells := cI ys) (o := .cells arr 21 (0, 0)) (.inl ⟨arr, _, rfl, by rw [cI_length, hy, cI_vI]; exact RepL.lits _⟩)
  refine ⟨c.newBox w.heap.size, Ext.newBox c w _, rfl, rfl, hM, ?_⟩
  simp only [Rep]
  refine ⟨Nat.lt_succ_self _, 0, arr.size, arr, by simp [Ctx.newBox], .inl rfl, hle, hcm, cells32.symm, by omega, ⟨(0, 0), ?_⟩, by omega, fun _ => ⟨rfl, by omega⟩⟩
  have : (c.newBox w.heap.size).β c.next = w.heap.size := by simp [Ctx.newBox]
  rw [this]
  exact heap_alloc_new w _
end
end Go.Proofs.Ytmhpjoadfgplgaa
