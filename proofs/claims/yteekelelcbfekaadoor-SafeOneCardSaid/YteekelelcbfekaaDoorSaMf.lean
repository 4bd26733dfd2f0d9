/-
The builder of texts; code points coded by a set. Conditions: none.
-/
import Derived.Test.YteekelelcbfekaaDoorSaMe
import Derived.KernelRfl
import Derived.Lib.Strings
import Derived.Lib.Slices
import Derived.Lib.Walk
import Derived.Lib.Builder
import Derived.Lib.UnsafeStr
import Derived.WalkKit
import Derived.Laws.Externs
set_option linter.unusedSimpArgs false
set_option linter.unusedVariables false
set_option linter.unusedSectionVars false

/-! ## PunAE -/

namespace Go.Proofs.YteekelelcbfekaaDoor
open Go Go.Ab Go.ChangeShapes Go.WideShapes Go.ChangeAt Go.RowKit

theorem ptrB_t : Tryd.prog.underlying 47 = some (.pointer 49) := by kernel_rfl
theorem unsafe_t : Tryd.prog.underlying 104 = some .unsafePointer := by kernel_rfl
theorem sizeB : (Tryd.prog.info? 49).map (·.size) = some 2 := by kernel_rfl
theorem liesB : liesAt Tryd.prog Tryd.prog.depth 49 (2 / Tryd.prog.cellsOf 49) 0 49 1 = true := by kernel_rfl

set_option maxHeartbeats 1000000 in
set_option maxRecDepth 100000 in
/-- copyCheck at a builder that has been used: nothing turns. -/
theorem copyCheck_used (b : Nat) (w : World) (h0 : w.cell? ⟨b, 0, none⟩ = some (.pointer (some ⟨b, 0, none⟩))) :
    Calls Tryd.prog 40 #[.pointer (some ⟨b, 0, none⟩)] w fun e w' => e = .returned (.tuple #[]) ∧ w' = w := by
  obtain ⟨j, hj, _⟩ := Option.map_eq_some_iff.1 sizeB
  go_enter Tryd.func40, Tryd.ntmps40
  go_wp2
  rw [Lib.run_neq_ptr_same w _ ptrB_t hj]
  go_wp2
  go_end0
  exact ⟨rfl, rfl⟩

set_option maxHeartbeats 1000000 in
set_option maxRecDepth 100000 in
/-- copyCheck at a fresh builder: it stores its own address. -/
theorem copyCheck_fresh (b : Nat) (w : World) (h0 : w.cell? ⟨b, 0, none⟩ = some (.pointer none)) (hsh : w.shape? b = some (49, 2)) (hfz : w.frozen? ⟨b, 0, none⟩ = false) :
    Calls Tryd.prog 40 #[.pointer (some ⟨b, 0, none⟩)] w fun e w' => e = .returned (.tuple #[]) ∧ w' = w.setCell ⟨b, 0, none⟩ (.pointer (some ⟨b, 0, none⟩)) := by
  obtain ⟨j, hj, hjs⟩ := Option.map_eq_some_iff.1 sizeB
  go_enter Tryd.func40, Tryd.ntmps40
  go_wp2
  rw [Lib.run_to_unsafe w ⟨b, 0, none⟩ ptrB_t unsafe_t hj (by rw [hjs]; decide) hsh (Nat.zero_lt_succ 1)]
  simp only [Result.andThen]
  rw [Oper.upon_value]
  go_wp2
  rw [run_callFunc_extern Tryd.func61 (by kernel_rfl) (by kernel_rfl) (by kernel_rfl) (e := Extern.AbiNoEscape.same) (by kernel_rfl)]
  rw [Lib.run_noEscape]
  simp only [Result.andThen]
  rw [Oper.upon_value]
  go_wp2
  rw [Lib.run_from_unsafe w ⟨b, 0, none⟩ unsafe_t ptrB_t hj hsh liesB]
  simp only [Result.andThen]
  rw [Oper.upon_value]
  go_wp2
  go_end0
  exact ⟨rfl, rfl⟩

def a24 : ACode :=
  (.seq (.reg [⟨(.some 4), (.mv (.k .nilIface)), .none⟩]) (.seq (.reg [⟨(.some 5), (.mv (.t 0)), .none⟩, ⟨(.some 6), (.call (.f 40) [(.t 5)]), .none⟩]) (.seq (.reg [⟨(.some 7), (.mv (.t 0)), .none⟩,
  ⟨(.some 8), (.mv (.t 0)), .none⟩, ⟨(.some 9), (.xv .ncl [(.t 8)]), .none⟩, ⟨(.some 10), (.fa 1 (.t 9)), .none⟩, ⟨(.some 11), (.ld .none (.t 10)), .none⟩, ⟨(.some 12), (.mv (.t 1)), .none⟩, ⟨(.some
  13), (.bs 5 1 [(.t 12)]), .none⟩, ⟨(.some 14), (.app 5 1 (.t 11) (.t 13)), .none⟩, ⟨(.some 15), (.xv .ncl [(.t 7)]), .none⟩, ⟨(.some 16), (.fa 1 (.t 15)), .none⟩, ⟨.none, (.st 1 (.t 16) (.t 14)),
  .none⟩]) (.seq (.reg [⟨(.some 4), (.mv (.k .nilIface)), .none⟩]) .ret))))
theorem c24 : Tryd.f24.body.bind (cCode Tryd.prog 17) = some a24 := by kernel_rfl
theorem r24 : Tryd.f24.results.toList = [(.tmp 4)] := by kernel_rfl
theorem n24 : Tryd.f24.ntmps = 17 := by kernel_rfl
theorem e24 : Enters Tryd.prog 24 := Go.Ab.enters_of Tryd.func24 (by kernel_rfl) (by kernel_rfl)

/-- Whether a builder has been used: what its first cell holds. -/
def selfP (u : Bool) (id : Nat) : AV := if u then .bp id 0 else .lit (.pointer none)
/-- What its buffer holds. -/
def bufP (q : AV) (bs : List Nat) (tp : List (Nat × TypeId)) (nx : Nat) : Prop :=
  (q = .lit (.slice none 0 0) ∧ bs = []) ∨ ∃ t, q = .sl 5 (octs bs) (some t) ∧ hasTip tp t 5 = true ∧ t < nx ∧ bs ≠ []

section
variable {P : Program} {g : FuncId} {args : List AV} {bx bx1 : List (Nat × List AV)} {tp tp1 : List (Nat × TypeId)} {nx : Nat} {K : AV → List (Nat × List AV) → List (Nat × TypeId) → Nat → Prop}
/-- And behind it. -/
theorem CallOK.post (h : CallOK P g args bx tp nx fun r b t n => ∃ b1 t1, b1.Sublist b ∧ t1.Sublist t ∧ K r b1 t1 n) : CallOK P g args bx tp nx K := by
  refine ⟨h.1, fun c w vs hm hn hr => (h.2 c w vs hm hn hr).mono ?_⟩
  rintro e w' ⟨v, c', r, bx', tp', h1, h2, h3, h4, h5, h6, b1, t1, k1, k2, k3⟩
  exact ⟨v, c', r, b1, t1, h1, h2, h3, h4, h5.forget k1 k2, h6, k3⟩
end

theorem setCell_row {w : World} {b : Nat} {arr : Array Value} {t : TypeId} {fr : Nat × Nat} (i : Nat) (v : Value) (h : w.heap[b]? = some (.cells arr t fr)) : w.setCell ⟨b, i, none⟩ v = w.setRow b (arr.setIfInBounds i v) :=
  setCell_eq_setRow w b i arr t fr v h

theorem copyCheck_ok {u : Bool} {id : Nat} {q : AV} {bx : List (Nat × List AV)} {tp : List (Nat × TypeId)} {nx : Nat} {K : AV → List (Nat × List AV) → List (Nat × TypeId) → Nat → Prop}
    (hb : boxAt bx id = some [selfP u id, q]) (hK : K (.tu []) (setBox bx id [.bp id 0, q]) tp nx) : CallOK Tryd.prog 40 [.rf (.var 49 2) id] bx tp nx K := by
  refine ⟨enters_of Tryd.func40 (by kernel_rfl) (by kernel_rfl), fun c w vs hm hn hr => ?_⟩
  simp only [RepL, Rep, RefOK] at hr
  obtain ⟨v, vs', hvs, ⟨hid, arr, rfl, hrow, hsz⟩, rfl⟩ := hr
  have hrow0 := row_zero hm hb hrow
  have hrep := row_cells hm hb hrow0
  have hvs2 : vs = #[.pointer (some ⟨c.β id, 0, none⟩)] := by rw [← Array.toArray_toList (xs := vs), hvs]
  subst hvs2
  obtain ⟨x, y, rfl⟩ : ∃ x y, arr = #[x, y] := by
    match arr, hsz with
    | ⟨[x, y]⟩, _ => exact ⟨x, y, rfl⟩
  simp only [List.length_cons, List.length_nil, List.take, RepL] at hrep
  obtain ⟨x1, xs1, he1, hx, y1, ys1, rfl, hy, rfl⟩ := hrep
  simp only [List.cons.injEq, and_true] at he1
  obtain ⟨rfl, rfl⟩ := he1
  have hmem := boxAt_mem hb
  cases u with
  | true =>
    simp only [selfP, if_true, Rep] at hx
    obtain ⟨_, rfl⟩ := hx
    refine (copyCheck_used (c.β id) w (by simp [World.cell?, hrow0])).mono ?_
    rintro e w' ⟨rfl, rfl⟩
    refine ⟨_, c, .tu [], _, tp, rfl, Ext.refl _ _ _, Nat.le_refl _, rfl, hm.reBox (cells' := [.bp id 0, q]) hmem (fun o ho hB => ?_), by simp only [Rep]; exact ⟨#[], rfl, by simp [RepL]⟩, hn ▸ hK⟩
    simpa only [selfP, if_true] using hB
  | false =>
    simp only [selfP, Bool.false_eq_true, if_false, Rep] at hx
    subst hx
    refine (copyCheck_fresh (c.β id) w (by simp [World.cell?, hrow0]) (by simp [World.shape?, hrow0]) (by simp [World.frozen?, hrow0])).mono ?_
    rintro e w' ⟨rfl, rfl⟩
    have hset := setCell_row (w := w) (b := c.β id) 0 (.pointer (some ⟨c.β id, 0, none⟩)) hrow0
    rw [hset]
    have hX := Ext.setRow c.next c w (c.β id) (#[Value.pointer none, y].setIfInBounds 0 (.pointer (some ⟨c.β id, 0, none⟩))) hrow0 (by simp) (hm.boxes _ hmem).free
    refine ⟨_, c, .tu [], _, tp, rfl, hX, Nat.le_refl _, rfl, hm.setRow (cells' := [.bp id 0, q]) hmem hrow0 (by simp) ?_, by simp only [Rep]; exact ⟨#[], rfl, by simp [RepL]⟩, hn ▸ hK⟩
    simp only [RepL, Rep]
    exact ⟨_, _, rfl, ⟨hid, rfl⟩, _, _, rfl, hy, rfl⟩

theorem boxAt_set {x y : AV} {id : Nat} : ∀ {bx : List (Nat × List AV)} {c : List AV}, boxAt bx id = some c → boxAt (setBox bx id [x, y]) id = some [x, y]
  | (i, v) :: l, c, h => by
    simp only [boxAt] at h
    simp only [setBox]
    split at h
    · rename_i he
      subst he
      rw [if_pos rfl]
      simp [boxAt, unOb, obBox]
    · rename_i he
      rw [if_neg he]
      simp only [boxAt, if_neg he]
      exact boxAt_set h
theorem setBox_set (x y : List AV) (id : Nat) : ∀ (bx : List (Nat × List AV)), setBox (setBox bx id x) id y = setBox bx id y
  | [] => rfl
  | (i, v) :: l => by
    simp only [setBox]
    split
    · simp [setBox, *]
    · simp [setBox, *, setBox_set x y id l]

set_option maxRecDepth 10000 in
theorem write_ok {u : Bool} {id : Nat} {q : AV} {bs : List Nat} (n : Nat) {bx : List (Nat × List AV)} {tp : List (Nat × TypeId)} {nx : Nat} {K : AV → List (Nat × List AV) → List (Nat × TypeId) → Nat → Prop}
    (hb : boxAt bx id = some [selfP u id, q]) (hq : bufP q bs tp nx) (hl : bs.length ≤ 1099511627776) (hK : ∀ q', bufP q' (bs ++ [n]) [(nx + 1, 5)] (nx + 2) → K (.lit .nilIface) (setBox bx id [selfP true id, q']) [(nx + 1, 5)] (nx + 2)) :
    CallOK Tryd.prog 24 [.rf (.var 49 2) id, .lit (.int .u8 (n : Int))] bx tp nx K := by
  refine CallOK.post ?_
  have hK' := hK (.sl 5 (octs (bs ++ [n])) (some (nx + 1))) (.inr ⟨nx + 1, rfl, by simp [hasTip], by omega, by simp⟩)
  simp only [selfP, if_true, octs_append] at hK'
  rcases hq with ⟨rfl, rfl⟩ | ⟨t, rfl, ht, hlt, hne0⟩
  · refine callOK_walk Tryd.func24 c24 n24 e24 r24 (by simp) ?_
    simp only [a24, astart, argSlots, hb, go_sem, Nat.reduceAdd, Nat.reduceEqDiff, Nat.reduceLT, reduceIte, reduceCtorEq, Nat.reduceBEq, Int.reduceLT, Int.reduceToNat, Int.reducePow, Nat.reduceLeDiff, Int.reduceLE, Nat.reduceMul, Nat.reduceSub]
    refine callGo_ok (copyCheck_ok hb ?_)
    simp only [boxAt_set hb, go_sem, Nat.reduceAdd, Nat.reduceEqDiff, Nat.reduceLT, reduceIte, reduceCtorEq, Nat.reduceBEq, Int.reduceLT, Int.reduceToNat, Int.reducePow, Nat.reduceLeDiff, Int.reduceLE, Nat.reduceMul, Nat.reduceSub]
    exact ⟨.inr trivial, _, by simp only [resAV, resL, resOne, go_sem, Nat.reduceAdd, Nat.reduceEqDiff, Nat.reduceLT, reduceIte, reduceCtorEq, Nat.reduceBEq, Int.reduceLT, Int.reduceToNat, Int.reducePow, Nat.reduceLeDiff, Int.reduceLE, Nat.reduceMul, Nat.reduceSub], _, _, by rw [setBox_set]; exact List.Sublist.refl _, .cons_cons _ (List.nil_sublist _), hK'⟩
  · have hne : ¬ nx = t := by omega
    have hc : (bs.length + 1) * 1 ≤ 140737488355328 ∧ bs.length + 1 ≤ 9223372036854775807 ∧ True := ⟨by omega, by omega, trivial⟩
    refine callOK_walk Tryd.func24 c24 n24 e24 r24 (by simp) ?_
    simp only [a24, astart, argSlots, hb, go_sem, Nat.reduceAdd, Nat.reduceEqDiff, Nat.reduceLT, reduceIte, reduceCtorEq, Nat.reduceBEq, Int.reduceLT, Int.reduceToNat, Int.reducePow, Nat.reduceLeDiff, Int.reduceLE, Nat.reduceMul, Nat.reduceSub]
    refine callGo_ok (copyCheck_ok hb ?_)
    simp only [boxAt_set hb, hne, ht, if_false, if_true, octs_length, List.length_cons, List.length_nil, Nat.zero_add, hc, go_sem, Nat.reduceAdd, Nat.reduceEqDiff, Nat.reduceLT, reduceIte, reduceCtorEq, Nat.reduceBEq, Int.reduceLT, Int.reduceToNat, Int.reducePow, Nat.reduceLeDiff, Int.reduceLE, Nat.reduceMul, Nat.reduceSub]
    exact ⟨.inr trivial, _, by simp only [resAV, resL, resOne, go_sem, Nat.reduceAdd, Nat.reduceEqDiff, Nat.reduceLT, reduceIte, reduceCtorEq, Nat.reduceBEq, Int.reduceLT, Int.reduceToNat, Int.reducePow, Nat.reduceLeDiff, Int.reduceLE, Nat.reduceMul, Nat.reduceSub], _, _, by rw [setBox_set]; exact List.Sublist.refl _, .cons_cons _ (List.nil_sublist _), hK'⟩
end Go.Proofs.YteekelelcbfekaaDoor

/-! ## PunBE -/

namespace Go.Proofs.YteekelelcbfekaaDoor
open Go Go.Ab Go.ChangeShapes Go.WideShapes Go.ChangeAt Go.RowKit

theorem ptrByte_t : Tryd.prog.underlying 78 = some (.pointer 5) := by kernel_rfl
theorem cellsByte : Tryd.prog.cellsOf 5 = 1 := by kernel_rfl

set_option maxHeartbeats 1000000 in
set_option maxRecDepth 100000 in
theorem string_row (b g cap : Nat) (p : Value) (cur : Array Value) (l : List UInt8) (w : World) (hbk : w.heap[b]? = some (.cells #[p, .slice (some ⟨g, 0, none⟩) l.length cap] 49 (0, 0)))
    (hg : w.heap[g]? = some (.cells cur 5 (0, 0))) (hnc : l.length ≤ cap) (hcm : cap ≤ maxLen) (hcs : cur.size = cap) (hl0 : l.length ≠ 0) (hcell : ∀ j x, l[j]? = some x → w.cell? ⟨g, j, none⟩ = some (.int .u8 x.toNat)) :
    Calls Tryd.prog 26 #[.pointer (some ⟨b, 0, none⟩)] w fun e w' => e = .returned (.string ⟨l.toArray⟩) ∧ w' = w.drew.freeze ⟨g, 0, none⟩ l.length := by
  have h0 : l ≠ [] := fun e => hl0 (by rw [e]; rfl)
  have c1 : w.drew.cell? ⟨b, 1, none⟩ = some (.slice (some ⟨g, 0, none⟩) l.length cap) := by
    have : w.drew.heap[b]? = some (.cells #[p, .slice (some ⟨g, 0, none⟩) l.length cap] 49 (0, 0)) := hbk
    rw [Lib.cell_of_heap this]; rfl
  have hSD : (Builtin.unsafeSliceData_ #[26] 78 #[.slice (some ⟨g, 0, none⟩) l.length cap]).run Tryd.prog w.drew = .ok (.pointer (some ⟨g, 0, none⟩)) w.drew :=
    Lib.run_unsafeSliceData_row _ _ _ _ _ _ (by omega)
  have hUS : (Builtin.unsafeString_ #[78, 3] 9 #[.pointer (some ⟨g, 0, none⟩), .int .i64 l.length]).run Tryd.prog w.drew = .ok (.string ⟨l.toArray⟩) (w.drew.freeze ⟨g, 0, none⟩ l.length) := by
    refine Lib.run_unsafeString_row w.drew 78 3 9 5 ptrByte_t cellsByte g cur.size (by have hg' : w.drew.heap[g]? = some (.cells cur 5 (0, 0)) := hg; simp [World.shape?, hg']) l h0 (by omega) (by unfold maxLen at hcm; omega) ?_
    intro j x hx
    rw [add_lit, Nat.zero_add]
    exact hcell j x hx
  go_enter Tryd.func26, Tryd.ntmps26
  go_wp2
  go_region
  all_goals (go_wp2; go_ret; exact ⟨rfl, rfl⟩)

set_option maxHeartbeats 1000000 in
set_option maxRecDepth 100000 in
theorem string_nil (b : Nat) (p : Value) (w : World) (hbk : w.heap[b]? = some (.cells #[p, .slice none 0 0] 49 (0, 0))) :
    Calls Tryd.prog 26 #[.pointer (some ⟨b, 0, none⟩)] w fun e w' => e = .returned (.string ⟨#[]⟩) ∧ w' = w.drew := by
  have hUS : ∀ (W : World) (q : Option Addr), (Builtin.unsafeString_ #[78, 3] 9 #[.pointer q, .int .i64 0]).run Tryd.prog W = .ok (.string .empty) W := fun W q => Lib.run_unsafeString_none W _ _ _ q
  have c1 : w.drew.cell? ⟨b, 1, none⟩ = some (.slice none 0 0) := by
    have : w.drew.heap[b]? = some (.cells #[p, .slice none 0 0] 49 (0, 0)) := hbk
    rw [Lib.cell_of_heap this]; rfl
  have hSD : (Builtin.unsafeSliceData_ #[26] 78 #[.slice none 0 0]).run Tryd.prog w.drew = .ok (.pointer none) w.drew := rfl
  go_enter Tryd.func26, Tryd.ntmps26
  go_wp2
  go_region
  all_goals (go_wp2; go_ret; exact ⟨rfl, rfl⟩)

theorem freeze_heap {w : World} {g n : Nat} {cur : Array Value} {e : TypeId} (hn : n ≠ 0) (hg : w.heap[g]? = some (.cells cur e (0, 0))) : (w.freeze ⟨g, 0, none⟩ n).heap[g]? = some (.cells cur e (0, n)) := by
  simp [World.freeze, hn, Array.getElem?_modify, hg]
theorem freeze_other {w : World} {g n k : Nat} (hk : k ≠ g) : (w.freeze ⟨g, 0, none⟩ n).heap[k]? = w.heap[k]? := by
  unfold World.freeze
  split
  · rfl
  · simp only [Array.getElem?_modify]
    rw [if_neg (fun e => hk e.symm)]
theorem freeze_size (w : World) (g n : Nat) : (w.freeze ⟨g, 0, none⟩ n).heap.size = w.heap.size := by
  unfold World.freeze
  split
  · rfl
  · simp
theorem freeze_cell {w : World} {g n : Nat} {cur : Array Value} {e : TypeId} (hn : n ≠ 0) (hg : w.heap[g]? = some (.cells cur e (0, 0))) (b j : Nat) : (w.freeze ⟨g, 0, none⟩ n).cell? ⟨b, j, none⟩ = w.cell? ⟨b, j, none⟩ := by
  by_cases hb : b = g
  · subst hb
    simp [World.cell?, freeze_heap hn hg, hg]
  · exact World.cell?_of_block (a := ⟨b, j, none⟩) (freeze_other hb)

theorem octs_flat (bs : List Nat) (hb : ∀ n ∈ bs, n ≤ 255) (j : Nat) (x : UInt8) (h : (bs.map fun n => UInt8.ofNat n)[j]? = some x) : (octs bs).flatten[j]? = some (.int .u8 x.toNat) := by
  have e : ∀ l : List Nat, (octs l).flatten = l.map fun (n : Nat) => Value.int .u8 (n : Int) := by
    intro l
    induction l with
    | nil => rfl
    | cons a l ih =>
      have : octs (a :: l) = [.int .u8 (a : Int)] :: octs l := rfl
      rw [this, List.flatten_cons, ih]
      rfl
  rw [e]
  rw [List.getElem?_map] at h ⊢
  cases hj : bs[j]? with
  | none => rw [hj] at h; cases h
  | some n =>
    rw [hj] at h
    simp only [Option.map_some, Option.some.injEq] at h ⊢
    subst h
    have := hb n (List.mem_of_getElem? hj)
    simp
    omega

theorem string_ok {u : Bool} {id : Nat} {q : AV} {bs : List Nat} {bx : List (Nat × List AV)} {tp : List (Nat × TypeId)} {nx : Nat} {K : AV → List (Nat × List AV) → List (Nat × TypeId) → Nat → Prop}
    (hb : boxAt bx id = some [selfP u id, q]) (hq : bufP q bs tp nx) (hbs : ∀ n ∈ bs, n ≤ 255) (hK : K (.lit (.string (txt bs))) bx [] nx) : CallOK Tryd.prog 26 [.rf (.var 49 2) id] bx tp nx K := by
  refine ⟨enters_of Tryd.func26 (by kernel_rfl) (by kernel_rfl), fun c w vs hm hn hr => ?_⟩
  simp only [RepL, Rep, RefOK] at hr
  obtain ⟨v, vs', hvs, ⟨hid, arr, rfl, hrow, hsz⟩, rfl⟩ := hr
  have hrow0 := row_zero hm hb hrow
  have hrep := row_cells hm hb hrow0
  have hvs2 : vs = #[.pointer (some ⟨c.β id, 0, none⟩)] := by rw [← Array.toArray_toList (xs := vs), hvs]
  subst hvs2
  obtain ⟨x, y, rfl⟩ : ∃ x y, arr = #[x, y] := by
    match arr, hsz with
    | ⟨[x, y]⟩, _ => exact ⟨x, y, rfl⟩
  simp only [List.length_cons, List.length_nil, List.take, RepL] at hrep
  obtain ⟨x1, xs1, he1, hx, y1, ys1, rfl, hy, rfl⟩ := hrep
  simp only [List.cons.injEq, and_true] at he1
  obtain ⟨rfl, rfl⟩ := he1
  have hmem := boxAt_mem hb
  rcases hq with ⟨rfl, rfl⟩ | ⟨t, rfl, ht, hlt, hne0⟩
  · simp only [Rep] at hy
    subst hy
    refine (string_nil (c.β id) x w hrow0).mono ?_
    rintro e w' ⟨rfl, rfl⟩
    exact ⟨_, c, _, bx, [], rfl, Ext.drew _ _ _, Nat.le_refl _, rfl, hm.drew.forget (List.Sublist.refl _) (List.nil_sublist _), by simp only [Rep]; rfl, hn ▸ hK⟩
  · simp only [Rep] at hy
    obtain ⟨⟨a, cap, rfl, hle, hEls, hread⟩, htip⟩ := hy
    obtain ⟨_, hτ⟩ := htip t rfl
    have hT := hm.tips _ (hasTip_mem ht)
    have hlen : (octs bs).length = bs.length := octs_length bs
    have hbl : bs.length ≠ 0 := fun e => hne0 (List.length_eq_zero_iff.1 e)
    rcases hT.row with h1 | ⟨g, n, cap', cur, h1, hbase, hg, hnc, hcm, hcs, hpr⟩
    · simp only at h1
      rw [hτ] at h1
      simp only [Value.slice.injEq] at h1
      omega
    · simp only at h1
      rw [hτ] at h1
      simp only [Value.slice.injEq] at h1
      obtain ⟨rfl, rfl, rfl⟩ := h1
      rcases hread with hr0 | ⟨b, off, hbo, hrd⟩
      · rw [hr0] at hlen; simp at hlen; omega
      · simp only [Option.some.injEq, Addr.mk.injEq] at hbo
        obtain ⟨rfl, rfl, _⟩ := hbo
        have hl2 : (bs.map fun n => UInt8.ofNat n).length = (octs bs).length := by rw [List.length_map, hlen]
        rw [← hl2] at hrow0
        rw [cellsByte, Nat.mul_one] at hcs
        have hl3 : (bs.map fun n => UInt8.ofNat n).length ≠ 0 := by rw [List.length_map]; exact hbl
        refine (string_row (c.β id) g cap x cur (bs.map fun n => UInt8.ofNat n) w hrow0 hg (by rw [hl2]; exact hle) hcm hcs hl3 (fun j x hx => by
          have := (hrd j _ (octs_flat bs hbs j x hx)).2
          rwa [Nat.zero_add] at this)).mono ?_
        rintro e w' ⟨rfl, rfl⟩
        generalize (bs.map fun n => UInt8.ofNat n).length = L at hl3
        have hgd : w.drew.heap[g]? = some (.cells cur 5 (0, 0)) := hg
        have hX : Ext c.next c w.drew c (w.drew.freeze ⟨g, 0, none⟩ L) := ⟨rfl, rfl, rfl, by rw [freeze_size]; exact Nat.le_refl _, fun _ _ => ⟨rfl, rfl⟩, fun b j _ hp => ⟨hp, freeze_cell hl3 hgd b j⟩,
          Stays.of_one hgd (freeze_heap hl3 hgd) rfl (fun b _ hb => freeze_other hb), fun b es n _ hb => (freeze_other (fun e => by rw [e] at hb; exact absurd (hgd.symm.trans hb) (by simp))).trans hb⟩
        have hX2 := (Ext.drew c.next c w).trans hX
        have hcross : ∀ y ∈ bx, c.β y.1 ≠ g := fun y hy e => hm.cross _ (hasTip_mem ht) y hy (by simp only; rw [hτ]; simp [Value.ownBlock, e])
        have hm1 := hm.drew
        refine ⟨_, c, _, bx, [], rfl, hX2, Nat.le_refl _, rfl, ⟨fun y hy => (hm1.boxes y hy).ext hX (Nat.le_refl _) (freeze_other (hcross y hy)) fun _ hj => hj, hm1.apart, by simp, by simp, by simp, by simp, Lib.below_freeze hm1.below (p := ⟨g, 0, none⟩) hbase _, by rw [freeze_size]; exact hm1.baseLe, fun b j hp => by rw [freeze_size]; exact hm1.plt b j hp, hm1.pold⟩, by simp only [Rep]; rfl, hn ▸ hK⟩
end Go.Proofs.YteekelelcbfekaaDoor

/-! ## SafK -/

namespace Go.Proofs.YteekelelcbfekaaDoor
open Go Go.Ab
def a22 : ACode :=
  (.seq (.reg [⟨(.some 2), (.mv (.k (.string ⟨#[]⟩))), .none⟩, ⟨(.some 3), (.mv (.k (.bool false))), .none⟩]) (.seq (.reg [⟨(.some 4), (.mv (.k (.string ⟨#[]⟩))), .none⟩]) (.seq (.seq (.reg [⟨(.some 5),
  (.mv (.t 0)), .none⟩]) (.block 0 (.seq (.block 6 (.seq (.block 5 (.seq (.block 4 (.seq (.block 3 (.seq (.block 2 (.seq (.block 1 (.seq (.seq (.seq (.reg [⟨(.some 7), (.bin .eql (.t 5) (.k (.int .u8
  6))), .none⟩, ⟨(.some 6), (.mv (.t 7)), .none⟩]) (.cond (.t 6) (.exit 1) .skip)) (.seq (.seq (.reg [⟨(.some 9), (.bin .eql (.t 5) (.k (.int .u8 5))), .none⟩, ⟨(.some 8), (.mv (.t 9)), .none⟩]) (.cond
  (.t 8) (.exit 2) .skip)) (.seq (.seq (.reg [⟨(.some 11), (.bin .eql (.t 5) (.k (.int .u8 3))), .none⟩, ⟨(.some 10), (.mv (.t 11)), .none⟩]) (.cond (.t 10) (.exit 3) .skip)) (.seq (.seq (.reg [⟨(.some
  13), (.bin .eql (.t 5) (.k (.int .u8 4))), .none⟩, ⟨(.some 12), (.mv (.t 13)), .none⟩]) (.cond (.t 12) (.exit 4) .skip)) (.seq (.seq (.reg [⟨(.some 15), (.bin .eql (.t 5) (.k (.int .u8 2))), .none⟩,
  ⟨(.some 14), (.mv (.t 15)), .none⟩]) (.cond (.t 14) (.exit 5) .skip)) (.seq (.reg [⟨(.some 17), (.bin .eql (.t 5) (.k (.int .u8 1))), .none⟩, ⟨(.some 16), (.mv (.t 17)), .none⟩]) (.cond (.t 16) (.exit
  6) .skip))))))) (.exit 0))) (.reg [⟨(.some 18), (.mv (.t 4)), .none⟩, ⟨(.some 19), (.bin .add (.t 18) (.k (.string ⟨#[47, 58, 59, 61, 64, 91, 92, 93, 124]⟩))), .none⟩, ⟨(.some 4), (.mv (.t 19)),
  .none⟩]))) (.reg [⟨(.some 20), (.mv (.t 4)), .none⟩, ⟨(.some 21), (.bin .add (.t 20) (.k (.string ⟨#[63, 94, 123, 125, 96]⟩))), .none⟩, ⟨(.some 4), (.mv (.t 21)), .none⟩]))) (.seq (.seq (.reg [⟨(.some
  22), (.mv (.t 4)), .none⟩, ⟨(.some 23), (.bin .add (.t 22) (.k (.string ⟨#[32, 34, 35, 60, 62]⟩))), .none⟩, ⟨(.some 2), (.mv (.t 23)), .none⟩, ⟨(.some 3), (.mv (.k (.bool true))), .none⟩]) .ret)
  (.exit 0)))) (.seq (.seq (.reg [⟨(.some 2), (.mv (.k (.string ⟨#[32, 34, 35, 60, 62, 39]⟩))), .none⟩, ⟨(.some 3), (.mv (.k (.bool true))), .none⟩]) .ret) (.exit 0)))) (.seq (.seq (.reg [⟨(.some 2),
  (.mv (.k (.string ⟨#[32, 34, 60, 62, 96]⟩))), .none⟩, ⟨(.some 3), (.mv (.k (.bool true))), .none⟩]) .ret) (.exit 0)))) (.seq (.seq (.reg [⟨(.some 2), (.mv (.k (.string ⟨#[]⟩))), .none⟩, ⟨(.some 3),
  (.mv (.k (.bool true))), .none⟩]) .ret) (.exit 0))))) (.seq (.reg [⟨(.some 2), (.mv (.k (.string ⟨#[]⟩))), .none⟩, ⟨(.some 3), (.mv (.k (.bool false))), .none⟩]) .ret))))
theorem c22 : Tryd.f22.body.bind (cCode Tryd.prog 24) = some a22 := by kernel_rfl
theorem r22 : Tryd.f22.results.toList = [(.tmp 2), (.tmp 3)] := by kernel_rfl
theorem n22 : Tryd.f22.ntmps = 24 := by kernel_rfl
theorem e22 : Enters Tryd.prog 22 := Go.Ab.enters_of Tryd.func22 (by kernel_rfl) (by kernel_rfl)
def a23 : ACode :=
  (.seq (.reg [⟨(.some 4), (.mv (.k (.bool false))), .none⟩]) (.seq (.reg [⟨(.some 8), (.mv (.t 0)), .none⟩, ⟨(.some 9), (.call (.f 22) [(.t 8)]), .none⟩, ⟨(.some 7), (.mv (.t 9)), .none⟩, ⟨(.some 10),
  (.ext (.t 7) 0), .none⟩, ⟨(.some 11), (.ext (.t 7) 1), .none⟩, ⟨(.some 5), (.mv (.t 10)), .none⟩, ⟨(.some 6), (.mv (.t 11)), .none⟩]) (.seq (.reg [⟨(.some 12), (.mv (.t 6)), .none⟩, ⟨(.some 13), (.mv
  (.t 12)), .none⟩, ⟨(.some 14), (.mv (.t 1)), (.some (13, true))⟩, ⟨(.some 15), (.bin .lss (.t 14) (.k (.int .i32 32))), (.some (13, true))⟩, ⟨(.some 16), (.mv (.t 15)), (.some (13, true))⟩, ⟨(.some
  17), (.mv (.t 1)), (.some (16, false))⟩, ⟨(.some 18), (.bin .gtr (.t 17) (.k (.int .i32 126))), (.some (16, false))⟩, ⟨(.some 19), (.pick (.t 16) (.k (.bool true)) (.t 18)), (.some (13, true))⟩,
  ⟨(.some 20), (.mv (.t 19)), (.some (13, true))⟩, ⟨(.some 21), (.mv (.t 5)), (.some (20, false))⟩, ⟨(.some 22), (.mv (.t 1)), (.some (20, false))⟩, ⟨(.some 23), (.call (.f 39) [(.t 21), (.t 22)]),
  (.some (20, false))⟩, ⟨(.some 24), (.pick (.t 20) (.k (.bool true)) (.t 23)), (.some (13, true))⟩, ⟨(.some 25), (.pick (.t 13) (.t 24) (.k (.bool false))), .none⟩, ⟨(.some 4), (.mv (.t 25)), .none⟩])
  .ret)))
theorem c23 : Tryd.f23.body.bind (cCode Tryd.prog 26) = some a23 := by kernel_rfl
theorem r23 : Tryd.f23.results.toList = [(.tmp 4)] := by kernel_rfl
theorem n23 : Tryd.f23.ntmps = 26 := by kernel_rfl
theorem e23 : Enters Tryd.prog 23 := Go.Ab.enters_of Tryd.func23 (by kernel_rfl) (by kernel_rfl)
def a39 : ACode :=
  (.seq (.reg [⟨(.some 4), (.mv (.k (.bool false))), .none⟩]) (.seq (.reg [⟨(.some 5), (.mv (.t 0)), .none⟩, ⟨(.some 6), (.mv (.t 1)), .none⟩, ⟨(.some 7), (.call (.f 60) [(.t 5), (.t 6)]), .none⟩,
  ⟨(.some 8), (.bin .geq (.t 7) (.k (.int .i64 0))), .none⟩, ⟨(.some 4), (.mv (.t 8)), .none⟩]) .ret))
theorem c39 : Tryd.f39.body.bind (cCode Tryd.prog 9) = some a39 := by kernel_rfl
theorem r39 : Tryd.f39.results.toList = [(.tmp 4)] := by kernel_rfl
theorem n39 : Tryd.f39.ntmps = 9 := by kernel_rfl
theorem e39 : Enters Tryd.prog 39 := Go.Ab.enters_of Tryd.func39 (by kernel_rfl) (by kernel_rfl)
def a60 : ACode :=
  (.seq (.reg [⟨(.some 4), (.mv (.k (.int .i64 0))), .none⟩]) (.block 0 (.seq (.reg [⟨(.some 161), (.mv (.t 1)), .none⟩, ⟨(.some 162), (.bin .leq (.k (.int .i32 0)) (.t 161)), .none⟩, ⟨(.some 163), (.mv
  (.t 162)), .none⟩, ⟨(.some 164), (.mv (.t 1)), (.some (163, true))⟩, ⟨(.some 165), (.bin .lss (.t 164) (.k (.int .i32 128))), (.some (163, true))⟩, ⟨(.some 166), (.pick (.t 163) (.t 165) (.k (.bool
  false))), .none⟩, ⟨(.some 160), (.mv (.t 166)), .none⟩]) (.cond (.t 160) (.seq (.reg [⟨(.some 167), (.mv (.t 0)), .none⟩, ⟨(.some 168), (.mv (.t 1)), .none⟩, ⟨(.some 169), (.cvI .u8 (.t 168)), .none⟩,
  ⟨(.some 170), (.call (.f 59) [(.t 167), (.t 169)]), .none⟩, ⟨(.some 4), (.mv (.t 170)), .none⟩]) .ret) (.seq (.reg [⟨(.some 172), (.mv (.t 1)), .none⟩, ⟨(.some 173), (.bin .eql (.t 172) (.k (.int .i32
  65533))), .none⟩, ⟨(.some 171), (.mv (.t 173)), .none⟩]) (.cond (.t 171) (.seq (.seq (.reg [⟨(.some 174), (.mv (.t 0)), .none⟩, ⟨(.some 175), (.xe .rngS [(.t 174)]), .none⟩]) (.block 9 (.loop (.seq
  (.reg [⟨(.some 176), (.nxt true (.t 175)), .none⟩, ⟨(.some 177), (.ext (.t 176) 0), .none⟩]) (.seq (.cond (.t 177) .skip (.exit 9)) (.block 10 (.seq (.reg [⟨(.some 178), (.ext (.t 176) 1), .none⟩,
  ⟨(.some 179), (.ext (.t 176) 2), .none⟩, ⟨(.some 5), (.mv (.t 178)), .none⟩, ⟨(.some 6), (.mv (.t 179)), .none⟩]) (.seq (.reg [⟨(.some 180), (.mv (.t 6)), .none⟩, ⟨(.some 181), (.bin .eql (.t 180) (.k
  (.int .i32 65533))), .none⟩]) (.cond (.t 181) (.seq (.reg [⟨(.some 182), (.mv (.t 5)), .none⟩, ⟨(.some 4), (.mv (.t 182)), .none⟩]) .ret) .skip))))))))) (.seq (.reg [⟨(.some 4), (.mv (.k (.int .i64
  (-1)))), .none⟩]) .ret)) (.seq (.reg [⟨(.some 184), (.mv (.t 1)), .none⟩, ⟨(.some 185), (.call (.f 73) [(.t 184)]), .none⟩, ⟨(.some 186), (.not (.t 185)), .none⟩, ⟨(.some 183), (.mv (.t 186)),
  .none⟩]) (.cond (.t 183) (.seq (.reg [⟨(.some 4), (.mv (.k (.int .i64 (-1)))), .none⟩]) .ret) .dead))))))))
theorem c60 : Tryd.f60.body.bind (cCode Tryd.prog 187) = some a60 := by kernel_rfl
theorem r60 : Tryd.f60.results.toList = [(.tmp 4)] := by kernel_rfl
theorem n60 : Tryd.f60.ntmps = 187 := by kernel_rfl
theorem e60 : Enters Tryd.prog 60 := Go.Ab.enters_of Tryd.func60 (by kernel_rfl) (by kernel_rfl)
def a11 : ACode :=
  (.seq (.reg [⟨(.some 4), (.mv (.k (.string ⟨#[]⟩))), .none⟩, ⟨(.some 5), (.mv (.k (.int .i64 0))), .none⟩]) (.seq (.seq (.reg [⟨(.some 14), (.mv (.t 0)), .none⟩, ⟨(.some 15), (.call (.f 22) [(.t
  14)]), .none⟩, ⟨(.some 13), (.mv (.t 15)), .none⟩, ⟨(.some 16), (.ext (.t 13) 0), .none⟩, ⟨(.some 17), (.ext (.t 13) 1), .none⟩, ⟨(.some 6), (.mv (.t 16)), .none⟩, ⟨(.some 7), (.mv (.t 17)), .none⟩])
  (.seq (.reg [⟨(.some 18), (.mv (.t 7)), .none⟩, ⟨(.some 19), (.not (.t 18)), .none⟩]) (.cond (.t 19) (.seq (.reg [⟨(.some 4), (.mv (.k (.string ⟨#[]⟩))), .none⟩, ⟨(.some 5), (.mv (.k (.int .i64 2))),
  .none⟩]) .ret) .skip))) (.seq (.reg [⟨(.some 8), (.xe (.alcT 49 [(.pointer .none), (.slice .none 0 0)]) []), .none⟩]) (.seq (.seq (.reg [⟨(.some 20), (.mv (.t 1)), .none⟩, ⟨(.some 21), (.len (.t 20)),
  .none⟩, ⟨(.some 22), (.mv (.k (.int .i64 0))), .none⟩]) (.block 0 (.loop (.seq (.reg [⟨(.some 23), (.bin .lss (.t 22) (.t 21)), .none⟩]) (.seq (.cond (.t 23) .skip (.exit 0)) (.seq (.block 1 (.seq
  (.reg [⟨(.some 24), (.ia 21 (.t 20) (.t 22)), .none⟩, ⟨(.some 25), (.ld .none (.t 24)), .none⟩, ⟨(.some 10), (.mv (.t 25)), .none⟩]) (.seq (.seq (.reg [⟨(.some 26), (.mv (.t 0)), .none⟩, ⟨(.some 27),
  (.mv (.t 10)), .none⟩, ⟨(.some 28), (.call (.f 23) [(.t 26), (.t 27)]), .none⟩, ⟨(.some 29), (.not (.t 28)), .none⟩]) (.cond (.t 29) (.seq (.reg [⟨(.some 30), (.mv (.t 10)), .none⟩, ⟨(.some 31), (.cvI
  .u8 (.t 30)), .none⟩, ⟨(.some 32), (.call (.f 24) [(.t 8), (.t 31)]), .none⟩]) (.exit 1)) .skip)) (.seq (.reg [⟨(.some 33), (.mv (.t 10)), .none⟩, ⟨(.some 34), (.bs 21 1 [(.t 33)]), .none⟩, ⟨(.some
  35), (.call (.f 25) [(.t 34)]), .none⟩, ⟨(.some 36), (.len (.t 35)), .none⟩, ⟨(.some 37), (.mv (.k (.int .i64 0))), .none⟩]) (.block 2 (.loop (.seq (.reg [⟨(.some 38), (.bin .lss (.t 37) (.t 36)),
  .none⟩]) (.seq (.cond (.t 38) .skip (.exit 2)) (.seq (.block 3 (.seq (.reg [⟨(.some 39), (.ia 5 (.t 35) (.t 37)), .none⟩, ⟨(.some 40), (.ld .none (.t 39)), .none⟩, ⟨(.some 12), (.mv (.t 40)), .none⟩])
  (.seq (.reg [⟨(.some 41), (.call (.f 24) [(.t 8), (.k (.int .u8 37))]), .none⟩]) (.seq (.reg [⟨(.some 42), (.mv (.t 12)), .none⟩, ⟨(.some 43), (.bin .shr (.t 42) (.k (.int .u64 4))), .none⟩, ⟨(.some
  44), (.ixS (.k (.string ⟨#[48, 49, 50, 51, 52, 53, 54, 55, 56, 57, 65, 66, 67, 68, 69, 70]⟩)) (.t 43)), .none⟩, ⟨(.some 45), (.call (.f 24) [(.t 8), (.t 44)]), .none⟩]) (.reg [⟨(.some 46), (.mv (.t
  12)), .none⟩, ⟨(.some 47), (.bin .and (.t 46) (.k (.int .u8 15))), .none⟩, ⟨(.some 48), (.ixS (.k (.string ⟨#[48, 49, 50, 51, 52, 53, 54, 55, 56, 57, 65, 66, 67, 68, 69, 70]⟩)) (.t 47)), .none⟩,
  ⟨(.some 49), (.call (.f 24) [(.t 8), (.t 48)]), .none⟩]))))) (.reg [⟨(.some 50), (.bin .add (.t 37) (.k (.int .i64 1))), .none⟩, ⟨(.some 37), (.mv (.t 50)), .none⟩])))))))))) (.reg [⟨(.some 51), (.bin
  .add (.t 22) (.k (.int .i64 1))), .none⟩, ⟨(.some 22), (.mv (.t 51)), .none⟩]))))))) (.seq (.reg [⟨(.some 52), (.call (.f 26) [(.t 8)]), .none⟩, ⟨(.some 4), (.mv (.t 52)), .none⟩, ⟨(.some 5), (.mv (.k
  (.int .i64 0))), .none⟩]) .ret)))))
theorem c11 : Tryd.f11.body.bind (cCode Tryd.prog 53) = some a11 := by kernel_rfl
theorem r11 : Tryd.f11.results.toList = [(.tmp 4), (.tmp 5)] := by kernel_rfl
theorem n11 : Tryd.f11.ntmps = 53 := by kernel_rfl
theorem e11 : Enters Tryd.prog 11 := Go.Ab.enters_of Tryd.func11 (by kernel_rfl) (by kernel_rfl)
def a17 : ACode :=
  (.seq (.reg [⟨(.some 2), (.mv (.k (.int .u8 0))), .none⟩]) (.seq (.reg [⟨(.some 3), (.mv (.t 0)), .none⟩, ⟨(.some 4), (.bin .rem (.t 3) (.k (.int .u8 6))), .none⟩, ⟨(.some 5), (.bin .add (.k (.int .u8
  1)) (.t 4)), .none⟩, ⟨(.some 2), (.mv (.t 5)), .none⟩]) .ret))
theorem c17 : Tryd.f17.body.bind (cCode Tryd.prog 6) = some a17 := by kernel_rfl
theorem r17 : Tryd.f17.results.toList = [(.tmp 2)] := by kernel_rfl
theorem n17 : Tryd.f17.ntmps = 6 := by kernel_rfl
theorem e17 : Enters Tryd.prog 17 := Go.Ab.enters_of Tryd.func17 (by kernel_rfl) (by kernel_rfl)

/-- What else is in a set. -/
def alsoOf (s : Int) : List Nat := if s = 6 then [47, 58, 59, 61, 64, 91, 92, 93, 124, 63, 94, 123, 125, 96, 32, 34, 35, 60, 62] else if s = 5 then [63, 94, 123, 125, 96, 32, 34, 35, 60, 62] else if s = 3 then [32, 34, 35, 60, 62] else if s = 4 then [32, 34, 35, 60, 62, 39] else if s = 2 then [32, 34, 60, 62, 96] else []
def isSet (s : Int) : Prop := s = 1 ∨ s = 2 ∨ s = 3 ∨ s = 4 ∨ s = 5 ∨ s = 6

theorem more_pure {s : Int} (hs : isSet s) : Pure Tryd.prog 22 [.lit (.int .u8 s)] [] (.tu [.lit (.string (txt (alsoOf s))), .lit (.bool true)]) := by
  refine pure0 Tryd.func22 c22 n22 e22 r22 (by simp) (by rfl) ?_
  have c1 : binStr .add ⟨#[]⟩ ⟨#[47, 58, 59, 61, 64, 91, 92, 93, 124]⟩ = some (.string ⟨#[47, 58, 59, 61, 64, 91, 92, 93, 124]⟩) := rfl
  have c2 : binStr .add ⟨#[47, 58, 59, 61, 64, 91, 92, 93, 124]⟩ ⟨#[63, 94, 123, 125, 96]⟩ = some (.string ⟨#[47, 58, 59, 61, 64, 91, 92, 93, 124, 63, 94, 123, 125, 96]⟩) := rfl
  have c3 : binStr .add ⟨#[47, 58, 59, 61, 64, 91, 92, 93, 124, 63, 94, 123, 125, 96]⟩ ⟨#[32, 34, 35, 60, 62]⟩ = some (.string ⟨#[47, 58, 59, 61, 64, 91, 92, 93, 124, 63, 94, 123, 125, 96, 32, 34, 35, 60, 62]⟩) := rfl
  have c4 : binStr .add ⟨#[]⟩ ⟨#[63, 94, 123, 125, 96]⟩ = some (.string ⟨#[63, 94, 123, 125, 96]⟩) := rfl
  have c5 : binStr .add ⟨#[63, 94, 123, 125, 96]⟩ ⟨#[32, 34, 35, 60, 62]⟩ = some (.string ⟨#[63, 94, 123, 125, 96, 32, 34, 35, 60, 62]⟩) := rfl
  have c6 : binStr .add ⟨#[]⟩ ⟨#[32, 34, 35, 60, 62]⟩ = some (.string ⟨#[32, 34, 35, 60, 62]⟩) := rfl
  rcases hs with rfl | rfl | rfl | rfl | rfl | rfl
  all_goals
    simp only [a22, astart, argSlots, c1, c2, c3, c4, c5, c6, Int.reduceBEq, beq_self_eq_true, go_sem, Nat.reduceAdd, Nat.reduceEqDiff, Nat.reduceLT, reduceIte, reduceCtorEq, Nat.reduceBEq, Int.reduceLT, Int.reduceToNat, Int.reducePow, Nat.reduceLeDiff, Int.reduceLE, Nat.reduceMul, Nat.reduceSub]
    simp only [Done, resAV, resL, resOne, look_nil, look_cons, Nat.reduceEqDiff, if_true, if_false, reduceIte, ite_true, ite_false, Nat.zero_ne_one, Nat.one_ne_zero, reduceCtorEq, true_or, or_true, true_and, Option.some.injEq, AV.lit.injEq, Value.int.injEq, Value.bool.injEq]
    rfl

theorem ix_also {s : Int} (hs : isSet s) {r : Nat} (h1 : 32 ≤ r) (h2 : r ≤ 126) : decide (Lib.indexByte (txt (alsoOf s)).data.toList r.toUInt8 ≥ 0) = (alsoOf s).any fun (c : Nat) => (c : Int) == (r : Int) := by
  have key : ∀ L : List Nat, (∀ r : Nat, r < 127 → decide (Lib.indexByte (txt L).data.toList r.toUInt8 ≥ 0) = L.any fun (c : Nat) => (c : Int) == (r : Int)) → decide (Lib.indexByte (txt L).data.toList r.toUInt8 ≥ 0) = L.any fun (c : Nat) => (c : Int) == (r : Int) := fun L h => h r (by omega)
  rcases hs with rfl | rfl | rfl | rfl | rfl | rfl
  all_goals exact key _ (by decide +kernel)

set_option maxRecDepth 10000 in
theorem indexRune_pure (b : ByteArray) {r : Nat} (h1 : 32 ≤ r) (h2 : r ≤ 126) : Pure Tryd.prog 60 [.lit (.string b), .lit (.int .i32 (r : Int))] [] (.lit (.int .i64 (Lib.indexByte b.data.toList r.toUInt8))) := by
  refine pure0 Tryd.func60 c60 n60 e60 r60 (by simp) (by rfl) ?_
  have d1 : decide ((0 : Int) ≤ (r : Int)) = true := by simp
  have d2 : decide ((r : Int) < 128) = true := by simp; omega
  have w : IntKind.u8.wrap (r : Int) = (r : Int) := wrap_u8 _ (by omega) (by omega)
  simp only [a60, astart, argSlots, d1, d2, w, go_sem, Nat.reduceAdd, Nat.reduceEqDiff, Nat.reduceLT, reduceIte, reduceCtorEq, Nat.reduceBEq, Int.reduceLT, Int.reduceToNat, Int.reducePow, Nat.reduceLeDiff, Int.reduceLE, Nat.reduceMul, Nat.reduceSub]
  refine callGo_pure (ixByte_pure b (r : Int)) (by rfl) ?_
  simp only [Int.toNat_natCast, go_sem, Nat.reduceAdd, Nat.reduceEqDiff, Nat.reduceLT, reduceIte, reduceCtorEq, Nat.reduceBEq, Int.reduceLT, Int.reduceToNat, Int.reducePow, Nat.reduceLeDiff, Int.reduceLE, Nat.reduceMul, Nat.reduceSub]
  simp only [Done, resAV, resL, resOne, look_nil, look_cons, Nat.reduceEqDiff, if_true, if_false, reduceIte, ite_true, ite_false, Nat.zero_ne_one, Nat.one_ne_zero, reduceCtorEq, true_or, or_true, true_and, Option.some.injEq, AV.lit.injEq, Value.int.injEq, Value.bool.injEq]
theorem containsRune_pure {s : Int} (hs : isSet s) {r : Nat} (h1 : 32 ≤ r) (h2 : r ≤ 126) : Pure Tryd.prog 39 [.lit (.string (txt (alsoOf s))), .lit (.int .i32 (r : Int))] [] (.lit (.bool ((alsoOf s).any fun (c : Nat) => (c : Int) == (r : Int)))) := by
  refine pure0 Tryd.func39 c39 n39 e39 r39 (by simp) (by rfl) ?_
  simp only [a39, astart, argSlots, go_sem, Nat.reduceAdd, Nat.reduceEqDiff, Nat.reduceLT, reduceIte, reduceCtorEq, Nat.reduceBEq, Int.reduceLT, Int.reduceToNat, Int.reducePow, Nat.reduceLeDiff, Int.reduceLE, Nat.reduceMul, Nat.reduceSub]
  refine callGo_pure (indexRune_pure (txt (alsoOf s)) h1 h2) (by rfl) ?_
  simp only [ix_also hs h1 h2, go_sem, Nat.reduceAdd, Nat.reduceEqDiff, Nat.reduceLT, reduceIte, reduceCtorEq, Nat.reduceBEq, Int.reduceLT, Int.reduceToNat, Int.reducePow, Nat.reduceLeDiff, Int.reduceLE, Nat.reduceMul, Nat.reduceSub]
  simp only [Done, resAV, resL, resOne, look_nil, look_cons, Nat.reduceEqDiff, if_true, if_false, reduceIte, ite_true, ite_false, Nat.zero_ne_one, Nat.one_ne_zero, reduceCtorEq, true_or, or_true, true_and, Option.some.injEq, AV.lit.injEq, Value.int.injEq, Value.bool.injEq]

set_option maxRecDepth 10000 in
theorem in_pure {s : Int} (hs : isSet s) (r : Int) : Pure Tryd.prog 23 [.lit (.int .u8 s), .lit (.int .i32 r)] [] (.lit (.bool (inS (alsoOf s) r))) := by
  refine pure0 Tryd.func23 c23 n23 e23 r23 (by simp) (by rfl) ?_
  simp only [a23, astart, argSlots, go_sem, Nat.reduceAdd, Nat.reduceEqDiff, Nat.reduceLT, reduceIte, reduceCtorEq, Nat.reduceBEq, Int.reduceLT, Int.reduceToNat, Int.reducePow, Nat.reduceLeDiff, Int.reduceLE, Nat.reduceMul, Nat.reduceSub]
  refine callGo_pure (more_pure hs) (by rfl) ?_
  by_cases h1 : r < 32
  · have d1 : decide (r < 32) = true := by simp; omega
    have e : inS (alsoOf s) r = true := by unfold inS; rw [d1]; rfl
    simp only [d1, e, go_sem, Nat.reduceAdd, Nat.reduceEqDiff, Nat.reduceLT, reduceIte, reduceCtorEq, Nat.reduceBEq, Int.reduceLT, Int.reduceToNat, Int.reducePow, Nat.reduceLeDiff, Int.reduceLE, Nat.reduceMul, Nat.reduceSub]
    simp only [Done, resAV, resL, resOne, look_nil, look_cons, Nat.reduceEqDiff, if_true, if_false, reduceIte, ite_true, ite_false, Nat.zero_ne_one, Nat.one_ne_zero, reduceCtorEq, true_or, or_true, true_and, Option.some.injEq, AV.lit.injEq, Value.int.injEq, Value.bool.injEq]
  · have d1 : decide (r < 32) = false := by simp; omega
    by_cases h2 : r > 126
    · have d2 : decide (r > 126) = true := by simp; omega
      have e : inS (alsoOf s) r = true := by unfold inS; rw [d1, d2]; rfl
      simp only [d1, d2, e, go_sem, Nat.reduceAdd, Nat.reduceEqDiff, Nat.reduceLT, reduceIte, reduceCtorEq, Nat.reduceBEq, Int.reduceLT, Int.reduceToNat, Int.reducePow, Nat.reduceLeDiff, Int.reduceLE, Nat.reduceMul, Nat.reduceSub]
      simp only [Done, resAV, resL, resOne, look_nil, look_cons, Nat.reduceEqDiff, if_true, if_false, reduceIte, ite_true, ite_false, Nat.zero_ne_one, Nat.one_ne_zero, reduceCtorEq, true_or, or_true, true_and, Option.some.injEq, AV.lit.injEq, Value.int.injEq, Value.bool.injEq]
    · have d2 : decide (r > 126) = false := by simp; omega
      obtain ⟨k, rfl⟩ : ∃ k : Nat, r = k := ⟨r.toNat, by omega⟩
      have e : inS (alsoOf s) (k : Int) = (alsoOf s).any fun (c : Nat) => (c : Int) == (k : Int) := by unfold inS; rw [d1, d2]; rfl
      simp only [d1, d2, go_sem, Nat.reduceAdd, Nat.reduceEqDiff, Nat.reduceLT, reduceIte, reduceCtorEq, Nat.reduceBEq, Int.reduceLT, Int.reduceToNat, Int.reducePow, Nat.reduceLeDiff, Int.reduceLE, Nat.reduceMul, Nat.reduceSub]
      refine callGo_pure (containsRune_pure hs (r := k) (by omega) (by omega)) (by rfl) ?_
      simp only [e, go_sem, Nat.reduceAdd, Nat.reduceEqDiff, Nat.reduceLT, reduceIte, reduceCtorEq, Nat.reduceBEq, Int.reduceLT, Int.reduceToNat, Int.reducePow, Nat.reduceLeDiff, Int.reduceLE, Nat.reduceMul, Nat.reduceSub]
      simp only [Done, resAV, resL, resOne, look_nil, look_cons, Nat.reduceEqDiff, if_true, if_false, reduceIte, ite_true, ite_false, Nat.zero_ne_one, Nat.one_ne_zero, reduceCtorEq, true_or, or_true, true_and, Option.some.injEq, AV.lit.injEq, Value.int.injEq, Value.bool.injEq]

theorem hexd_get {n : Nat} (h : n < 16) : (⟨#[48, 49, 50, 51, 52, 53, 54, 55, 56, 57, 65, 66, 67, 68, 69, 70]⟩ : ByteArray)[n]? = some (UInt8.ofNat (upH n)) := by
  have : ∀ n < 16, (⟨#[48, 49, 50, 51, 52, 53, 54, 55, 56, 57, 65, 66, 67, 68, 69, 70]⟩ : ByteArray)[n]? = some (UInt8.ofNat (upH n)) := by decide +kernel
  exact this n h
theorem upH_le {n : Nat} (h : n < 16) : upH n ≤ 255 := by unfold upH; split <;> omega
theorem shr4 (c : Nat) : (c : Int).fdiv (2 ^ 4) = ((c / 16 : Nat) : Int) := shr_i32 c 4

theorem encS_take {also : List Nat} {l : List Int} {i : Nat} (h : i < l.length) : encS also (l.take (i + 1)) = encS also (l.take i) ++ encS1 also l[i] := by
  unfold encS
  rw [List.take_succ_eq_append_getElem h, List.flatMap_append, List.flatMap_cons, List.flatMap_nil, List.append_nil]
theorem encS1_len (also : List Nat) (r : Int) : (encS1 also r).length ≤ 12 := by
  unfold encS1
  split
  · have := encN_len (fixN r)
    have : ∀ l : List Nat, (l.flatMap pctC).length = 3 * l.length := fun l => by
      induction l with
      | nil => rfl
      | cons a l ih => rw [List.flatMap_cons, List.length_append, ih]; simp [pctC]; omega
    rw [this]; omega
  · simp
theorem encS_len (also : List Nat) : ∀ l : List Int, (encS also l).length ≤ 12 * l.length
  | [] => by simp [encS]
  | r :: l => by
    have h1 := encS1_len also r
    have h2 := encS_len also l
    have e : encS also (r :: l) = encS1 also r ++ encS also l := by simp [encS]
    rw [e, List.length_append, List.length_cons]; omega
theorem encS1_by (also : List Nat) (r : Int) : ∀ c ∈ encS1 also r, c ≤ 126 := fun c hc => by
  unfold encS1 at hc
  split at hc
  · obtain ⟨n, hn, hm⟩ := List.mem_flatMap.1 hc
    have hn := encN_octs (fixN_le r) n hn
    simp only [pctC, List.mem_cons, List.not_mem_nil, or_false] at hm
    have h1 : upH (n / 16) ≤ 70 := by unfold upH; split <;> omega
    have h2 : upH (n % 16) ≤ 70 := by unfold upH; split <;> omega
    omega
  · rename_i h
    simp only [List.mem_singleton] at hc
    unfold inS at h
    simp only [Bool.or_eq_true, decide_eq_true_eq, not_or] at h
    omega
theorem encS_by (also : List Nat) (l : List Int) : ∀ c ∈ encS also l, c ≤ 126 := fun c hc => by
  obtain ⟨r, _, h⟩ := List.mem_flatMap.1 hc
  exact encS1_by also r c h
end Go.Proofs.YteekelelcbfekaaDoor

/-! ## SafL -/

namespace Go.Proofs.YteekelelcbfekaaDoor
open Go Go.Ab

theorem pctC_take {B : List Nat} {j : Nat} (h : j < B.length) : (B.take (j + 1)).flatMap pctC = (B.take j).flatMap pctC ++ [37] ++ [upH (B[j] / 16)] ++ [upH (B[j] % 16)] := by
  rw [List.take_succ_eq_append_getElem h, List.flatMap_append, List.flatMap_cons, List.flatMap_nil, List.append_nil]
  simp [pctC]
theorem pctC_len (l : List Nat) : (l.flatMap pctC).length = 3 * l.length := by
  induction l with
  | nil => rfl
  | cons a l ih => rw [List.flatMap_cons, List.length_append, ih]; simp [pctC]; omega
theorem unOb2 (x y : AV) : unOb [x, y] = some [x, y] := rfl
theorem bufP_mono {q : AV} {bs : List Nat} {tp : List (Nat × TypeId)} {n m : Nat} (h : n ≤ m) (hq : bufP q bs tp n) : bufP q bs tp m := by
  rcases hq with hq | ⟨t, h1, h2, h3, h4⟩
  · exact .inl hq
  · exact .inr ⟨t, h1, h2, by omega, h4⟩
theorem bufP_more {q : AV} {bs : List Nat} {tp : List (Nat × TypeId)} {n k e : Nat} (h : n ≤ k) (hq : bufP q bs tp n) : bufP q bs ((k, e) :: tp) (k + 1) := by
  rcases hq with hq | ⟨t, h1, h2, h3, h4⟩
  · exact .inl hq
  · refine .inr ⟨t, h1, ?_, by omega, h4⟩
    simp only [hasTip]
    rw [if_neg (by omega)]; exact h2

set_option maxRecDepth 10000 in
set_option maxHeartbeats 1000000 in
theorem pctEncode_pure {s : Int} (hs : isSet s) (l : List Int) (hl : l.length ≤ 1000000) : Pure Tryd.prog 11 [.lit (.int .u8 s), .sl 21 (runes l) none] [] (.tu [.lit (.string (txt (encS (alsoOf s) l))), .lit (.int .i64 0)]) := by
  refine pure0 Tryd.func11 c11 n11 e11 r11 (by simp) (by rfl) ?_
  simp only [a11, astart, argSlots, go_sem, Nat.reduceAdd, Nat.reduceEqDiff, Nat.reduceLT, reduceIte, reduceCtorEq, Nat.reduceBEq, Int.reduceLT, Int.reduceToNat, Int.reducePow, Nat.reduceLeDiff, Int.reduceLE, Nat.reduceMul, Nat.reduceSub]
  refine callGo_pure (more_pure hs) (by rfl) ?_
  simp only [runes_length, Bool.not_true, go_sem, Nat.reduceAdd, Nat.reduceEqDiff, Nat.reduceLT, reduceIte, reduceCtorEq, Nat.reduceBEq, Int.reduceLT, Int.reduceToNat, Int.reducePow, Nat.reduceLeDiff, Int.reduceLE, Nat.reduceMul, Nat.reduceSub]
  refine loop_by (α := Nat × (Bool × AV) × List (Nat × TypeId) × Nat) (fun x => ⟨[(0, some (.lit (.int .u8 s))), (8, some (.rf (.var 49 2) 0)), (20, some (.sl 21 (runes l) none)), (21, some (.lit (.int .i64 (l.length : Int)))), (22, some (.lit (.int .i64 ((x.1 : Nat) : Int))))], [(0, [selfP x.2.1.1 0, x.2.1.2])], x.2.2.1, x.2.2.2⟩)
    (fun x => x.1 ≤ l.length ∧ bufP x.2.1.2 (encS (alsoOf s) (l.take x.1)) x.2.2.1 x.2.2.2 ∧ 0 < x.2.2.2) (fun x => l.length - x.1) (fun x y h => by
      have := congrArg (cnt 22) h
      simp [cnt, Ab.look] at this
      rw [this]) (0, (false, .lit (.slice none 0 0)), [], 1) (weak_forget ?_ (List.Sublist.refl _) (List.Sublist.refl _)) ⟨by simp, .inl ⟨rfl, rfl⟩, by simp⟩ ?_
  · simp only [go_sem, Nat.reduceAdd, Nat.reduceEqDiff, Nat.reduceLT, reduceIte, reduceCtorEq, Nat.reduceBEq, Int.reduceLT, Int.reduceToNat, Int.reducePow, Nat.reduceLeDiff, Int.reduceLE, Nat.reduceMul, Nat.reduceSub, slotsBy, boxesBy, tipsBy, rawAt, nm, AV.ren, AV.renL, AV.under, AV.underL, List.all_nil, List.all_cons, bne_self_eq_false, List.getD_cons_zero, List.getD_cons_succ, List.length_nil, List.length_cons, and_true, true_and, slotsSub, Int.natCast_zero]
  · rintro ⟨i, ⟨u, q⟩, tp, nx⟩ ⟨h1, h2, h3⟩
    simp only at h1 h2 h3
    simp only [go_sem, Nat.reduceAdd, Nat.reduceEqDiff, Nat.reduceLT, reduceIte, reduceCtorEq, Nat.reduceBEq, Int.reduceLT, Int.reduceToNat, Int.reducePow, Nat.reduceLeDiff, Int.reduceLE, Nat.reduceMul, Nat.reduceSub]
    have hel := encS_len (alsoOf s) (l.take i)
    have htl := List.length_take_le i l
    have hel2 : (encS (alsoOf s) (l.take i)).length ≤ 12000000 := by omega
    rcases Nat.lt_or_eq_of_le h1 with hi | hi
    · have w : IntKind.i64.wrap ((i : Int) + 1) = ((i + 1 : Nat) : Int) := by rw [wrap_i64 _ (by omega) (by omega)]; omega
      have htk := encS_take (also := alsoOf s) hi
      have hx := runes_get l i hi
      simp only [dec_lt hi, hi, hx, go_sem, Nat.reduceAdd, Nat.reduceEqDiff, Nat.reduceLT, reduceIte, reduceCtorEq, Nat.reduceBEq, Int.reduceLT, Int.reduceToNat, Int.reducePow, Nat.reduceLeDiff, Int.reduceLE, Nat.reduceMul, Nat.reduceSub]
      generalize l[i] = r at *
      refine callGo_pure (in_pure hs r) (by rfl) ?_
      simp only [go_sem, Nat.reduceAdd, Nat.reduceEqDiff, Nat.reduceLT, reduceIte, reduceCtorEq, Nat.reduceBEq, Int.reduceLT, Int.reduceToNat, Int.reducePow, Nat.reduceLeDiff, Int.reduceLE, Nat.reduceMul, Nat.reduceSub]
      cases hin : inS (alsoOf s) r with
      | false =>
        have hr : 32 ≤ r ∧ r ≤ 126 := by
          unfold inS at hin
          simp only [Bool.or_eq_false_iff, decide_eq_false_iff_not] at hin
          omega
        have wu : IntKind.u8.wrap r = ((r.toNat : Nat) : Int) := by rw [wrap_u8 _ (by omega) (by omega)]; omega
        have he : encS1 (alsoOf s) r = [r.toNat] := by rw [encS1, if_neg (by rw [hin]; simp)]
        rw [he] at htk
        simp only [Bool.not_false, wu, go_sem, Nat.reduceAdd, Nat.reduceEqDiff, Nat.reduceLT, reduceIte, reduceCtorEq, Nat.reduceBEq, Int.reduceLT, Int.reduceToNat, Int.reducePow, Nat.reduceLeDiff, Int.reduceLE, Nat.reduceMul, Nat.reduceSub]
        refine callGo_ok (write_ok r.toNat (u := u) (q := q) (by simp only [unOb2, go_sem, Nat.reduceAdd, Nat.reduceEqDiff, Nat.reduceLT, reduceIte, reduceCtorEq, Nat.reduceBEq, Int.reduceLT, Int.reduceToNat, Int.reducePow, Nat.reduceLeDiff, Int.reduceLE, Nat.reduceMul, Nat.reduceSub]) h2 (by omega) fun q2 hq2 => ?_)
        rw [← htk] at hq2
        simp only [w, go_sem, Nat.reduceAdd, Nat.reduceEqDiff, Nat.reduceLT, reduceIte, reduceCtorEq, Nat.reduceBEq, Int.reduceLT, Int.reduceToNat, Int.reducePow, Nat.reduceLeDiff, Int.reduceLE, Nat.reduceMul, Nat.reduceSub]
        refine ⟨(i + 1, (true, q2), [(nx + 1, 5)], nx + 2), weak_forget ?_ (List.Sublist.refl _) (List.Sublist.refl _), ⟨hi, hq2, by simp only; omega⟩, by simp only; omega⟩
        simp only [go_sem, Nat.reduceAdd, Nat.reduceEqDiff, Nat.reduceLT, reduceIte, reduceCtorEq, Nat.reduceBEq, Int.reduceLT, Int.reduceToNat, Int.reducePow, Nat.reduceLeDiff, Int.reduceLE, Nat.reduceMul, Nat.reduceSub, slotsBy, boxesBy, tipsBy, rawAt, nm, AV.ren, AV.renL, AV.under, AV.underL, List.all_nil, List.all_cons, bne_self_eq_false, List.getD_cons_zero, List.getD_cons_succ, List.length_nil, List.length_cons, and_true, true_and, slotsSub]
      | true =>
        have he : encS1 (alsoOf s) r = (encN (fixN r)).flatMap pctC := by rw [encS1, if_pos hin]
        rw [he] at htk
        have hoc := encN_octs (fixN_le r)
        have hnl := encN_len (fixN r)
        have heL : encL [r] = encN (fixN r) := by simp [encL]
        simp only [Bool.not_true, go_sem, Nat.reduceAdd, Nat.reduceEqDiff, Nat.reduceLT, reduceIte, reduceCtorEq, Nat.reduceBEq, Int.reduceLT, Int.reduceToNat, Int.reducePow, Nat.reduceLeDiff, Int.reduceLE, Nat.reduceMul, Nat.reduceSub]
        refine callGo_pure (encode_pure [r] (by simp)) (by rfl) ?_
        rw [heL]
        generalize encN (fixN r) = B at *
        simp only [octs_length, go_sem, Nat.reduceAdd, Nat.reduceEqDiff, Nat.reduceLT, reduceIte, reduceCtorEq, Nat.reduceBEq, Int.reduceLT, Int.reduceToNat, Int.reducePow, Nat.reduceLeDiff, Int.reduceLE, Nat.reduceMul, Nat.reduceSub]
        refine loop_by (α := Nat × (Bool × AV) × List (Nat × TypeId) × Nat) (fun x => ⟨[(0, some (.lit (.int .u8 s))), (8, some (.rf (.var 49 2) 0)), (20, some (.sl 21 (runes l) none)), (21, some (.lit (.int .i64 (l.length : Int)))), (22, some (.lit (.int .i64 (i : Int)))), (35, some (.sl 5 (octs B) none)), (36, some (.lit (.int .i64 (B.length : Int)))), (37, some (.lit (.int .i64 ((x.1 : Nat) : Int))))], [(0, [selfP x.2.1.1 0, x.2.1.2])], x.2.2.1, x.2.2.2⟩)
          (fun x => x.1 ≤ B.length ∧ bufP x.2.1.2 (encS (alsoOf s) (l.take i) ++ (B.take x.1).flatMap pctC) x.2.2.1 x.2.2.2 ∧ 0 < x.2.2.2) (fun x => B.length - x.1) (fun x y h => by
            have := congrArg (cnt 37) h
            simp [cnt, Ab.look] at this
            rw [this]) (0, (u, q), (nx + 1, 5) :: (nx, 21) :: tp, nx + 2) ((weak_untip 35 (e := 5) (els := octs B) (tip := some (nx + 1)) (by simp only [go_sem, Nat.reduceAdd, Nat.reduceEqDiff, Nat.reduceLT, reduceIte, reduceCtorEq, Nat.reduceBEq, Int.reduceLT, Int.reduceToNat, Int.reducePow, Nat.reduceLeDiff, Int.reduceLE, Nat.reduceMul, Nat.reduceSub])).trans (weak_forget ?_ (List.Sublist.refl _) (List.Sublist.refl _))) ⟨by simp, ?_, by simp⟩ ?_
        · simp only [go_sem, Nat.reduceAdd, Nat.reduceEqDiff, Nat.reduceLT, reduceIte, reduceCtorEq, Nat.reduceBEq, Int.reduceLT, Int.reduceToNat, Int.reducePow, Nat.reduceLeDiff, Int.reduceLE, Nat.reduceMul, Nat.reduceSub, slotsBy, boxesBy, tipsBy, rawAt, nm, AV.ren, AV.renL, AV.under, AV.underL, List.all_nil, List.all_cons, bne_self_eq_false, List.getD_cons_zero, List.getD_cons_succ, List.length_nil, List.length_cons, and_true, true_and, slotsSub, Int.natCast_zero]
        · simp only [List.take_zero, List.flatMap_nil, List.append_nil]
          exact bufP_more (by omega) (bufP_more (Nat.le_refl _) h2)
        · rintro ⟨j, ⟨u1, q1⟩, tp1, nx1⟩ ⟨g1, g2, g3⟩
          simp only at g1 g2 g3
          simp only [go_sem, Nat.reduceAdd, Nat.reduceEqDiff, Nat.reduceLT, reduceIte, reduceCtorEq, Nat.reduceBEq, Int.reduceLT, Int.reduceToNat, Int.reducePow, Nat.reduceLeDiff, Int.reduceLE, Nat.reduceMul, Nat.reduceSub]
          rcases Nat.lt_or_eq_of_le g1 with hj | hj
          · have wj : IntKind.i64.wrap ((j : Int) + 1) = ((j + 1 : Nat) : Int) := by rw [wrap_i64 _ (by omega) (by omega)]; omega
            have hbx := octs_get B j hj
            have hcc := hoc _ (List.getElem_mem hj)
            have hpt := pctC_take hj
            have hbl : ((B.take j).flatMap pctC).length ≤ 12 := by rw [pctC_len, List.length_take]; omega
            have hb1 : (encS (alsoOf s) (l.take i) ++ (B.take j).flatMap pctC).length ≤ 12000012 := by rw [List.length_append]; omega
            simp only [dec_lt hj, hbx, go_sem, Nat.reduceAdd, Nat.reduceEqDiff, Nat.reduceLT, reduceIte, reduceCtorEq, Nat.reduceBEq, Int.reduceLT, Int.reduceToNat, Int.reducePow, Nat.reduceLeDiff, Int.reduceLE, Nat.reduceMul, Nat.reduceSub]
            generalize B[j] = c at *
            have hd16 : c / 16 < 16 := by omega
            have hm16 : c % 16 < 16 := by omega
            have ha : andI .u8 (c : Int) 15 = ((c % 16 : Nat) : Int) := andI_15 c (by omega)
            have hsh : (c : Int).fdiv 16 = ((c / 16 : Nat) : Int) := by have := shr4 c; simpa using this
            refine callGo_ok (write_ok 37 (u := u1) (q := q1) (by simp only [unOb2, go_sem, Nat.reduceAdd, Nat.reduceEqDiff, Nat.reduceLT, reduceIte, reduceCtorEq, Nat.reduceBEq, Int.reduceLT, Int.reduceToNat, Int.reducePow, Nat.reduceLeDiff, Int.reduceLE, Nat.reduceMul, Nat.reduceSub]) g2 (by omega) fun q2 hq2 => ?_)
            simp only [ha, hsh, hexd_get hd16, hexd_get hm16, u8_int (upH_le hd16), u8_int (upH_le hm16), go_sem, Nat.reduceAdd, Nat.reduceEqDiff, Nat.reduceLT, reduceIte, reduceCtorEq, Nat.reduceBEq, Int.reduceLT, Int.reduceToNat, Int.reducePow, Nat.reduceLeDiff, Int.reduceLE, Nat.reduceMul, Nat.reduceSub]
            refine callGo_ok (write_ok (upH (c / 16)) (u := true) (q := q2) (by simp only [unOb2, go_sem, Nat.reduceAdd, Nat.reduceEqDiff, Nat.reduceLT, reduceIte, reduceCtorEq, Nat.reduceBEq, Int.reduceLT, Int.reduceToNat, Int.reducePow, Nat.reduceLeDiff, Int.reduceLE, Nat.reduceMul, Nat.reduceSub]) hq2 (by rw [List.length_append, List.length_singleton]; omega) fun q3 hq3 => ?_)
            simp only [ha, hsh, hexd_get hd16, hexd_get hm16, u8_int (upH_le hd16), u8_int (upH_le hm16), go_sem, Nat.reduceAdd, Nat.reduceEqDiff, Nat.reduceLT, reduceIte, reduceCtorEq, Nat.reduceBEq, Int.reduceLT, Int.reduceToNat, Int.reducePow, Nat.reduceLeDiff, Int.reduceLE, Nat.reduceMul, Nat.reduceSub]
            refine callGo_ok (write_ok (upH (c % 16)) (u := true) (q := q3) (by simp only [unOb2, go_sem, Nat.reduceAdd, Nat.reduceEqDiff, Nat.reduceLT, reduceIte, reduceCtorEq, Nat.reduceBEq, Int.reduceLT, Int.reduceToNat, Int.reducePow, Nat.reduceLeDiff, Int.reduceLE, Nat.reduceMul, Nat.reduceSub]) hq3 (by rw [List.length_append, List.length_append, List.length_singleton, List.length_singleton]; omega) fun q4 hq4 => ?_)
            have e4 : encS (alsoOf s) (l.take i) ++ (B.take j).flatMap pctC ++ [37] ++ [upH (c / 16)] ++ [upH (c % 16)] = encS (alsoOf s) (l.take i) ++ (B.take (j + 1)).flatMap pctC := by
              rw [hpt]; simp only [List.append_assoc]
            rw [e4] at hq4
            simp only [wj, go_sem, Nat.reduceAdd, Nat.reduceEqDiff, Nat.reduceLT, reduceIte, reduceCtorEq, Nat.reduceBEq, Int.reduceLT, Int.reduceToNat, Int.reducePow, Nat.reduceLeDiff, Int.reduceLE, Nat.reduceMul, Nat.reduceSub]
            refine ⟨(j + 1, (true, q4), [(nx1 + 2 + 2 + 1, 5)], nx1 + 2 + 2 + 2), weak_forget ?_ (List.Sublist.refl _) (List.Sublist.refl _), ⟨hj, hq4, by simp only; omega⟩, by simp only; omega⟩
            simp only [go_sem, Nat.reduceAdd, Nat.reduceEqDiff, Nat.reduceLT, reduceIte, reduceCtorEq, Nat.reduceBEq, Int.reduceLT, Int.reduceToNat, Int.reducePow, Nat.reduceLeDiff, Int.reduceLE, Nat.reduceMul, Nat.reduceSub, slotsBy, boxesBy, tipsBy, rawAt, nm, AV.ren, AV.renL, AV.under, AV.underL, List.all_nil, List.all_cons, bne_self_eq_false, List.getD_cons_zero, List.getD_cons_succ, List.length_nil, List.length_cons, and_true, true_and, slotsSub]
          · subst hj
            rw [List.take_length, ← htk] at g2
            simp only [dec_irr, w, go_sem, Nat.reduceAdd, Nat.reduceEqDiff, Nat.reduceLT, reduceIte, reduceCtorEq, Nat.reduceBEq, Int.reduceLT, Int.reduceToNat, Int.reducePow, Nat.reduceLeDiff, Int.reduceLE, Nat.reduceMul, Nat.reduceSub]
            refine ⟨(i + 1, (u1, q1), tp1, nx1), weak_forget ?_ (List.Sublist.refl _) (List.Sublist.refl _), ⟨hi, g2, g3⟩, by simp only; omega⟩
            simp only [go_sem, Nat.reduceAdd, Nat.reduceEqDiff, Nat.reduceLT, reduceIte, reduceCtorEq, Nat.reduceBEq, Int.reduceLT, Int.reduceToNat, Int.reducePow, Nat.reduceLeDiff, Int.reduceLE, Nat.reduceMul, Nat.reduceSub, slotsBy, boxesBy, tipsBy, rawAt, nm, AV.ren, AV.renL, AV.under, AV.underL, List.all_nil, List.all_cons, bne_self_eq_false, List.getD_cons_zero, List.getD_cons_succ, List.length_nil, List.length_cons, and_true, true_and, slotsSub]
    · subst hi
      rw [List.take_length] at h2
      simp only [dec_irr, go_sem, Nat.reduceAdd, Nat.reduceEqDiff, Nat.reduceLT, reduceIte, reduceCtorEq, Nat.reduceBEq, Int.reduceLT, Int.reduceToNat, Int.reducePow, Nat.reduceLeDiff, Int.reduceLE, Nat.reduceMul, Nat.reduceSub]
      refine callGo_ok (string_ok (u := u) (q := q) (bs := encS (alsoOf s) l) (by simp only [unOb2, go_sem, Nat.reduceAdd, Nat.reduceEqDiff, Nat.reduceLT, reduceIte, reduceCtorEq, Nat.reduceBEq, Int.reduceLT, Int.reduceToNat, Int.reducePow, Nat.reduceLeDiff, Int.reduceLE, Nat.reduceMul, Nat.reduceSub]) h2 (fun n hn => by have := encS_by (alsoOf s) l n hn; omega) ?_)
      simp only [go_sem, Nat.reduceAdd, Nat.reduceEqDiff, Nat.reduceLT, reduceIte, reduceCtorEq, Nat.reduceBEq, Int.reduceLT, Int.reduceToNat, Int.reducePow, Nat.reduceLeDiff, Int.reduceLE, Nat.reduceMul, Nat.reduceSub]
      simp only [Done, resAV, resL, resOne, look_nil, look_cons, Nat.reduceEqDiff, if_true, if_false, reduceIte, ite_true, ite_false, Nat.zero_ne_one, Nat.one_ne_zero, reduceCtorEq, true_or, or_true, true_and, Option.some.injEq, AV.lit.injEq, Value.int.injEq, Value.bool.injEq]
end Go.Proofs.YteekelelcbfekaaDoor
