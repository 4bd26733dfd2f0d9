/-
The builder of texts: what its methods do. Conditions: none.
-/
import Derived.Test.YtmhpjoadfgplgaaBas
import Derived.KernelRfl
import Derived.Lib.Strings
import Derived.Lib.Slices
import Derived.Lib.Walk
import Derived.Lib.Builder
import Derived.Lib.UnsafeStr
import Derived.WalkKit
import Derived.Laws.Externs
set_option linter.unusedSimpArgs false
set_option linter.unusedVariables false
set_option linter.unusedSectionVars false
namespace Go.Proofs.Ytmhpjoadfgplgaa
open Go Go.Ab Go.ChangeShapes Go.WideShapes Go.ChangeAt Go.RowKit

theorem ptrB_t : Try.prog.underlying 53 = some (.pointer 55) := by kernel_rfl
theorem unsafe_t : Try.prog.underlying 125 = some .unsafePointer := by kernel_rfl
theorem sizeB : (Try.prog.info? 55).map (·.size) = some 2 := by kernel_rfl
theorem liesB : liesAt Try.prog Try.prog.depth 55 (2 / Try.prog.cellsOf 55) 0 55 1 = true := by kernel_rfl

set_option maxHeartbeats 1000000 in
set_option maxRecDepth 100000 in
/-- copyCheck at a builder that has been used: nothing turns. -/
theorem copyCheck_used (b : Nat) (w : World) (h0 : w.cell? ⟨b, 0, none⟩ = some (.pointer (some ⟨b, 0, none⟩))) :
    Calls Try.prog 72 #[.pointer (some ⟨b, 0, none⟩)] w fun e w' => e = .returned (.tuple #[]) ∧ w' = w := by
  obtain ⟨j, hj, _⟩ := Option.map_eq_some_iff.1 sizeB
  go_enter Try.func72, Try.ntmps72
  go_wp2
  rw [Lib.run_neq_ptr_same w _ ptrB_t hj]
  go_wp2
  go_end0
  exact ⟨rfl, rfl⟩

set_option maxHeartbeats 1000000 in
set_option maxRecDepth 100000 in
/-- copyCheck at a fresh builder: it stores its own address. -/
theorem copyCheck_fresh (b : Nat) (w : World) (h0 : w.cell? ⟨b, 0, none⟩ = some (.pointer none)) (hsh : w.shape? b = some (55, 2)) (hfz : w.frozen? ⟨b, 0, none⟩ = false) :
    Calls Try.prog 72 #[.pointer (some ⟨b, 0, none⟩)] w fun e w' => e = .returned (.tuple #[]) ∧ w' = w.setCell ⟨b, 0, none⟩ (.pointer (some ⟨b, 0, none⟩)) := by
  obtain ⟨j, hj, hjs⟩ := Option.map_eq_some_iff.1 sizeB
  go_enter Try.func72, Try.ntmps72
  go_wp2
  rw [Lib.run_to_unsafe w ⟨b, 0, none⟩ ptrB_t unsafe_t hj (by rw [hjs]; decide) hsh (Nat.zero_lt_succ 1)]
  simp only [Result.andThen]
  rw [Oper.upon_value]
  go_wp2
  rw [run_callFunc_extern Try.func95 (by kernel_rfl) (by kernel_rfl) (by kernel_rfl) (e := Extern.AbiNoEscape.same) (by kernel_rfl)]
  rw [Lib.run_noEscape]
  simp only [Result.andThen]
  rw [Oper.upon_value]
  go_wp2
  rw [Lib.run_from_unsafe w ⟨b, 0, none⟩ unsafe_t ptrB_t hj hsh liesB]
  simp only [Result.andThen]
  rw [Oper.upon_value]
  go_wp2
  go_end0
  exact ⟨rfl, rfl⟩

def a37 : ACode :=
  (.seq (.reg [⟨(.some 4), (.mv (.k .nilIface)), .none⟩]) (.seq (.reg [⟨(.some 5), (.mv (.t 0)), .none⟩, ⟨(.some 6), (.call (.f 72) [(.t 5)]), .none⟩]) (.seq (.reg [⟨(.some 7), (.mv (.t 0)), .none⟩,
  ⟨(.some 8), (.mv (.t 0)), .none⟩, ⟨(.some 9), (.xv .ncl [(.t 8)]), .none⟩, ⟨(.some 10), (.fa 1 (.t 9)), .none⟩, ⟨(.some 11), (.ld .none (.t 10)), .none⟩, ⟨(.some 12), (.mv (.t 1)), .none⟩, ⟨(.some
  13), (.bs 5 1 [(.t 12)]), .none⟩, ⟨(.some 14), (.app 5 1 (.t 11) (.t 13)), .none⟩, ⟨(.some 15), (.xv .ncl [(.t 7)]), .none⟩, ⟨(.some 16), (.fa 1 (.t 15)), .none⟩, ⟨.none, (.st 1 (.t 16) (.t 14)),
  .none⟩]) (.seq (.reg [⟨(.some 4), (.mv (.k .nilIface)), .none⟩]) .ret))))
theorem c37 : Try.f37.body.bind (cCode Try.prog 17) = some a37 := by kernel_rfl
theorem r37 : Try.f37.results.toList = [(.tmp 4)] := by kernel_rfl
theorem n37 : Try.f37.ntmps = 17 := by kernel_rfl
theorem e37 : Enters Try.prog 37 := enters_of Try.func37 (by kernel_rfl) (by kernel_rfl)
def a38 : ACode :=
  (.seq (.reg [⟨(.some 2), (.mv (.k (.int .i64 0))), .none⟩]) (.seq (.reg [⟨(.some 3), (.mv (.t 0)), .none⟩, ⟨(.some 4), (.xv .ncl [(.t 3)]), .none⟩, ⟨(.some 5), (.fa 1 (.t 4)), .none⟩, ⟨(.some 6), (.ld
  .none (.t 5)), .none⟩, ⟨(.some 7), (.len (.t 6)), .none⟩, ⟨(.some 2), (.mv (.t 7)), .none⟩]) .ret))
theorem c38 : Try.f38.body.bind (cCode Try.prog 8) = some a38 := by kernel_rfl
theorem r38 : Try.f38.results.toList = [(.tmp 2)] := by kernel_rfl
theorem n38 : Try.f38.ntmps = 8 := by kernel_rfl
theorem e38 : Enters Try.prog 38 := enters_of Try.func38 (by kernel_rfl) (by kernel_rfl)

/-- Whether a builder has been used: what its first cell holds. -/
def selfP (u : Bool) (id : Nat) : AV := if u then .bp id 0 else .lit (.pointer none)
/-- What its buffer holds. -/
def bufP (q : AV) (bs : List Nat) (tp : List (Nat × TypeId)) (nx : Nat) : Prop :=
  (q = .lit (.slice none 0 0) ∧ bs = []) ∨ ∃ t, q = .sl 5 (octs bs) (some t) ∧ hasTip tp t 5 = true ∧ t < nx ∧ bs ≠ []

section
variable {P : Program} {g : FuncId} {args : List AV} {bx bx1 : List (Nat × List AV)} {tp tp1 : List (Nat × TypeId)} {nx : Nat} {K : AV → List (Nat × List AV) → List (Nat × TypeId) → Nat → Prop}
/-- What is not used may be forgotten, ahead of a call. -/
theorem CallOK.forget (hb : bx1.Sublist bx) (ht : tp1.Sublist tp) (h : CallOK P g args bx1 tp1 nx K) : CallOK P g args bx tp nx K :=
  ⟨h.1, fun c w vs hm hn hr => h.2 c w vs (hm.forget hb ht) hn hr⟩
/-- And behind it. -/
theorem CallOK.post (h : CallOK P g args bx tp nx fun r b t n => ∃ b1 t1, b1.Sublist b ∧ t1.Sublist t ∧ K r b1 t1 n) : CallOK P g args bx tp nx K := by
  refine ⟨h.1, fun c w vs hm hn hr => (h.2 c w vs hm hn hr).mono ?_⟩
  rintro e w' ⟨v, c', r, bx', tp', h1, h2, h3, h4, h5, h6, b1, t1, k1, k2, k3⟩
  exact ⟨v, c', r, b1, t1, h1, h2, h3, h4, h5.forget k1 k2, h6, k3⟩
/-- Forgetting, in a state. -/
theorem weak_forget {F : Nat} {sl sl1 : List (Nat × Option AV)} (hs : slotsSub sl sl1) (hb : bx1.Sublist bx) (ht : tp1.Sublist tp) : Weak P F ⟨sl, bx, tp, nx⟩ ⟨sl1, bx1, tp1, nx⟩ := by
  intro N c a w hfl hr
  refine ⟨c, Ext.refl _ _ _, rfl, fun t' av ht' => hr.slots t' av (slotsSub_look hs ht'), hr.size, hr.marks, hr.round, hr.low, hr.mem.forget hb ht, hr.next, hr.floor⟩
end

theorem setCell_row {w : World} {b : Nat} {arr : Array Value} {t : TypeId} {fr : Nat × Nat} (i : Nat) (v : Value) (h : w.heap[b]? = some (.cells arr t fr)) : w.setCell ⟨b, i, none⟩ v = w.setRow b (arr.setIfInBounds i v) :=
  setCell_eq_setRow w b i arr t fr v h

theorem copyCheck_ok {u : Bool} {id : Nat} {q : AV} {bx : List (Nat × List AV)} {tp : List (Nat × TypeId)} {nx : Nat} {K : AV → List (Nat × List AV) → List (Nat × TypeId) → Nat → Prop}
    (hb : boxAt bx id = some [selfP u id, q]) (hK : K (.tu []) (setBox bx id [.bp id 0, q]) tp nx) : CallOK Try.prog 72 [.rf (.var 55 2) id] bx tp nx K := by
  refine ⟨enters_of Try.func72 (by kernel_rfl) (by kernel_rfl), fun c w vs hm hn hr => ?_⟩
  simp only [RepL, Rep, RefOK] at hr
  obtain ⟨v, vs', hvs, ⟨hid, arr, rfl, hrow, hsz⟩, rfl⟩ := hr
  have hrow0 := row_zero hm hb hrow
  have hrep := row_cells hm hb hrow0
  have hvs2 : vs = #[.pointer (some ⟨c.β id, 0, none⟩)] := by rw [← Array.toArray_toList (xs := vs), hvs]
  subst hvs2
  obtain ⟨x, y, rfl⟩ : ∃ x y, arr = #[x, y] := by
    match arr, hsz with
    | ⟨[x, y]⟩, _ => exact ⟨x, y, rfl⟩
  simp only [List.length_cons, List.length_nil, List.take, RepL] at hrep
  obtain ⟨x1, xs1, he1, hx, y1, ys1, rfl, hy, rfl⟩ := hrep
  simp only [List.cons.injEq, and_true] at he1
  obtain ⟨rfl, rfl⟩ := he1
  have hmem := boxAt_mem hb
  cases u with
  | true =>
    simp only [selfP, if_true, Rep] at hx
    obtain ⟨_, rfl⟩ := hx
    refine (copyCheck_used (c.β id) w (by simp [World.cell?, hrow0])).mono ?_
    rintro e w' ⟨rfl, rfl⟩
    refine ⟨_, c, .tu [], _, tp, rfl, Ext.refl _ _ _, Nat.le_refl _, rfl, hm.reBox (cells' := [.bp id 0, q]) hmem (fun o ho hB => ?_), by simp only [Rep]; exact ⟨#[], rfl, by simp [RepL]⟩, hn ▸ hK⟩
    simpa only [selfP, if_true] using hB
  | false =>
    simp only [selfP, Bool.false_eq_true, if_false, Rep] at hx
    subst hx
    refine (copyCheck_fresh (c.β id) w (by simp [World.cell?, hrow0]) (by simp [World.shape?, hrow0]) (by simp [World.frozen?, hrow0])).mono ?_
    rintro e w' ⟨rfl, rfl⟩
    have hset := setCell_row (w := w) (b := c.β id) 0 (.pointer (some ⟨c.β id, 0, none⟩)) hrow0
    rw [hset]
    have hX := Ext.setRow c.next c w (c.β id) (#[Value.pointer none, y].setIfInBounds 0 (.pointer (some ⟨c.β id, 0, none⟩))) hrow0 (by simp) (hm.boxes _ hmem).free
    refine ⟨_, c, .tu [], _, tp, rfl, hX, Nat.le_refl _, rfl, hm.setRow (cells' := [.bp id 0, q]) hmem hrow0 (by simp) ?_, by simp only [Rep]; exact ⟨#[], rfl, by simp [RepL]⟩, hn ▸ hK⟩
    simp only [RepL, Rep]
    exact ⟨_, _, rfl, ⟨hid, rfl⟩, _, _, rfl, hy, rfl⟩

theorem boxAt_set {x y : AV} {id : Nat} : ∀ {bx : List (Nat × List AV)} {c : List AV}, boxAt bx id = some c → boxAt (setBox bx id [x, y]) id = some [x, y]
  | (i, v) :: l, c, h => by
    simp only [boxAt] at h
    simp only [setBox]
    split at h
    · rename_i he
      subst he
      rw [if_pos rfl]
      simp [boxAt, unOb, obBox]
    · rename_i he
      rw [if_neg he]
      simp only [boxAt, if_neg he]
      exact boxAt_set h
theorem setBox_set (x y : List AV) (id : Nat) : ∀ (bx : List (Nat × List AV)), setBox (setBox bx id x) id y = setBox bx id y
  | [] => rfl
  | (i, v) :: l => by
    simp only [setBox]
    split
    · simp [setBox, *]
    · simp [setBox, *, setBox_set x y id l]

set_option maxRecDepth 10000 in
theorem len_ok {u : Bool} {id : Nat} {q : AV} {bs : List Nat} {bx : List (Nat × List AV)} {tp : List (Nat × TypeId)} {nx : Nat} {K : AV → List (Nat × List AV) → List (Nat × TypeId) → Nat → Prop}
    (hb : boxAt bx id = some [selfP u id, q]) (hq : bufP q bs tp nx) (hK : K (.lit (.int .i64 (bs.length : Int))) bx tp nx) : CallOK Try.prog 38 [.rf (.var 55 2) id] bx tp nx K := by
  rcases hq with ⟨rfl, rfl⟩ | ⟨t, rfl, ht, hlt, hne0⟩
  · refine callOK_walk Try.func38 c38 n38 e38 r38 (by simp) ?_
    simp only [a38, astart, argSlots, hb, go_sem, Nat.reduceAdd, Nat.reduceEqDiff, Nat.reduceLT, reduceIte, reduceCtorEq, Nat.reduceBEq, Int.reduceLT, Int.reduceToNat, Int.reducePow, Nat.reduceLeDiff, Int.reduceLE, Nat.reduceMul, Nat.reduceSub]
    simp only [List.length_nil, Int.natCast_zero] at hK
    exact ⟨.inr trivial, _, by simp only [resAV, resL, resOne, go_sem, Nat.reduceAdd, Nat.reduceEqDiff, Nat.reduceLT, reduceIte, reduceCtorEq, Nat.reduceBEq, Int.reduceLT, Int.reduceToNat, Int.reducePow, Nat.reduceLeDiff, Int.reduceLE, Nat.reduceMul, Nat.reduceSub], hK⟩
  · refine callOK_walk Try.func38 c38 n38 e38 r38 (by simp) ?_
    simp only [a38, astart, argSlots, hb, octs_length, go_sem, Nat.reduceAdd, Nat.reduceEqDiff, Nat.reduceLT, reduceIte, reduceCtorEq, Nat.reduceBEq, Int.reduceLT, Int.reduceToNat, Int.reducePow, Nat.reduceLeDiff, Int.reduceLE, Nat.reduceMul, Nat.reduceSub]
    exact ⟨.inr trivial, _, by simp only [resAV, resL, resOne, go_sem, Nat.reduceAdd, Nat.reduceEqDiff, Nat.reduceLT, reduceIte, reduceCtorEq, Nat.reduceBEq, Int.reduceLT, Int.reduceToNat, Int.reducePow, Nat.reduceLeDiff, Int.reduceLE, Nat.reduceMul, Nat.reduceSub], hK⟩

set_option maxRecDepth 10000 in
theorem write_ok {u : Bool} {id : Nat} {q : AV} {bs : List Nat} (n : Nat) {bx : List (Nat × List AV)} {tp : List (Nat × TypeId)} {nx : Nat} {K : AV → List (Nat × List AV) → List (Nat × TypeId) → Nat → Prop}
    (hb : boxAt bx id = some [selfP u id, q]) (hq : bufP q bs tp nx) (hl : bs.length ≤ 1099511627776) (hK : ∀ q', bufP q' (bs ++ [n]) [(nx + 1, 5)] (nx + 2) → K (.lit .nilIface) (setBox bx id [selfP true id, q']) [(nx + 1, 5)] (nx + 2)) :
    CallOK Try.prog 37 [.rf (.var 55 2) id, .lit (.int .u8 (n : Int))] bx tp nx K := by
  refine CallOK.post ?_
  have hK' := hK (.sl 5 (octs (bs ++ [n])) (some (nx + 1))) (.inr ⟨nx + 1, rfl, by simp [hasTip], by omega, by simp⟩)
  simp only [selfP, if_true, octs_append] at hK'
  rcases hq with ⟨rfl, rfl⟩ | ⟨t, rfl, ht, hlt, hne0⟩
  · refine callOK_walk Try.func37 c37 n37 e37 r37 (by simp) ?_
    simp only [a37, astart, argSlots, hb, go_sem, Nat.reduceAdd, Nat.reduceEqDiff, Nat.reduceLT, reduceIte, reduceCtorEq, Nat.reduceBEq, Int.reduceLT, Int.reduceToNat, Int.reducePow, Nat.reduceLeDiff, Int.reduceLE, Nat.reduceMul, Nat.reduceSub]
    refine callGo_ok (copyCheck_ok hb ?_)
    simp only [boxAt_set hb, go_sem, Nat.reduceAdd, Nat.reduceEqDiff, Nat.reduceLT, reduceIte, reduceCtorEq, Nat.reduceBEq, Int.reduceLT, Int.reduceToNat, Int.reducePow, Nat.reduceLeDiff, Int.reduceLE, Nat.reduceMul, Nat.reduceSub]
    exact ⟨.inr trivial, _, by simp only [resAV, resL, resOne, go_sem, Nat.reduceAdd, Nat.reduceEqDiff, Nat.reduceLT, reduceIte, reduceCtorEq, Nat.reduceBEq, Int.reduceLT, Int.reduceToNat, Int.reducePow, Nat.reduceLeDiff, Int.reduceLE, Nat.reduceMul, Nat.reduceSub], _, _, by rw [setBox_set]; exact List.Sublist.refl _, .cons_cons _ (List.nil_sublist _), hK'⟩
  · have hne : ¬ nx = t := by omega
    have hc : (bs.length + 1) * 1 ≤ 140737488355328 ∧ bs.length + 1 ≤ 9223372036854775807 ∧ True := ⟨by omega, by omega, trivial⟩
    refine callOK_walk Try.func37 c37 n37 e37 r37 (by simp) ?_
    simp only [a37, astart, argSlots, hb, go_sem, Nat.reduceAdd, Nat.reduceEqDiff, Nat.reduceLT, reduceIte, reduceCtorEq, Nat.reduceBEq, Int.reduceLT, Int.reduceToNat, Int.reducePow, Nat.reduceLeDiff, Int.reduceLE, Nat.reduceMul, Nat.reduceSub]
    refine callGo_ok (copyCheck_ok hb ?_)
    simp only [boxAt_set hb, hne, ht, if_false, if_true, octs_length, List.length_cons, List.length_nil, Nat.zero_add, hc, go_sem, Nat.reduceAdd, Nat.reduceEqDiff, Nat.reduceLT, reduceIte, reduceCtorEq, Nat.reduceBEq, Int.reduceLT, Int.reduceToNat, Int.reducePow, Nat.reduceLeDiff, Int.reduceLE, Nat.reduceMul, Nat.reduceSub]
    exact ⟨.inr trivial, _, by simp only [resAV, resL, resOne, go_sem, Nat.reduceAdd, Nat.reduceEqDiff, Nat.reduceLT, reduceIte, reduceCtorEq, Nat.reduceBEq, Int.reduceLT, Int.reduceToNat, Int.reducePow, Nat.reduceLeDiff, Int.reduceLE, Nat.reduceMul, Nat.reduceSub], _, _, by rw [setBox_set]; exact List.Sublist.refl _, .cons_cons _ (List.nil_sublist _), hK'⟩
end Go.Proofs.Ytmhpjoadfgplgaa
