/-
What a builder has taken, as a text. Conditions: none.
-/
import Derived.Test.YtmhpjoadfgplgaaPunA
import Derived.Test.YtmhpjoadfgplgaaPunT
set_option linter.unusedSimpArgs false
set_option linter.unusedVariables false
set_option linter.unusedSectionVars false
namespace Go.Proofs.Ytmhpjoadfgplgaa
open Go Go.Ab Go.ChangeShapes Go.WideShapes Go.ChangeAt Go.RowKit

theorem ptrByte_t : Try.prog.underlying 109 = some (.pointer 5) := by kernel_rfl
theorem cellsByte : Try.prog.cellsOf 5 = 1 := by kernel_rfl

set_option maxHeartbeats 1000000 in
set_option maxRecDepth 100000 in
theorem string_row (b g cap : Nat) (p : Value) (cur : Array Value) (l : List UInt8) (w : World) (hbk : w.heap[b]? = some (.cells #[p, .slice (some ⟨g, 0, none⟩) l.length cap] 55 (0, 0)))
    (hg : w.heap[g]? = some (.cells cur 5 (0, 0))) (hnc : l.length ≤ cap) (hcm : cap ≤ maxLen) (hcs : cur.size = cap) (hl0 : l.length ≠ 0) (hcell : ∀ j x, l[j]? = some x → w.cell? ⟨g, j, none⟩ = some (.int .u8 x.toNat)) :
    Calls Try.prog 42 #[.pointer (some ⟨b, 0, none⟩)] w fun e w' => e = .returned (.string ⟨l.toArray⟩) ∧ w' = w.drew.freeze ⟨g, 0, none⟩ l.length := by
  have h0 : l ≠ [] := fun e => hl0 (by rw [e]; rfl)
  have c1 : w.drew.cell? ⟨b, 1, none⟩ = some (.slice (some ⟨g, 0, none⟩) l.length cap) := by
    have : w.drew.heap[b]? = some (.cells #[p, .slice (some ⟨g, 0, none⟩) l.length cap] 55 (0, 0)) := hbk
    rw [Lib.cell_of_heap this]; rfl
  have hSD : (Builtin.unsafeSliceData_ #[35] 109 #[.slice (some ⟨g, 0, none⟩) l.length cap]).run Try.prog w.drew = .ok (.pointer (some ⟨g, 0, none⟩)) w.drew :=
    Lib.run_unsafeSliceData_row _ _ _ _ _ _ (by omega)
  have hUS : (Builtin.unsafeString_ #[109, 3] 9 #[.pointer (some ⟨g, 0, none⟩), .int .i64 l.length]).run Try.prog w.drew = .ok (.string ⟨l.toArray⟩) (w.drew.freeze ⟨g, 0, none⟩ l.length) := by
    refine Lib.run_unsafeString_row w.drew 109 3 9 5 ptrByte_t cellsByte g cur.size (by have hg' : w.drew.heap[g]? = some (.cells cur 5 (0, 0)) := hg; simp [World.shape?, hg']) l h0 (by omega) (by unfold maxLen at hcm; omega) ?_
    intro j x hx
    rw [add_lit, Nat.zero_add]
    exact hcell j x hx
  go_enter Try.func42, Try.ntmps42
  go_wp2
  go_region
  all_goals (go_wp2; go_ret; exact ⟨rfl, rfl⟩)

set_option maxHeartbeats 1000000 in
set_option maxRecDepth 100000 in
theorem string_nil (b : Nat) (p : Value) (w : World) (hbk : w.heap[b]? = some (.cells #[p, .slice none 0 0] 55 (0, 0))) :
    Calls Try.prog 42 #[.pointer (some ⟨b, 0, none⟩)] w fun e w' => e = .returned (.string ⟨#[]⟩) ∧ w' = w.drew := by
  have hUS : ∀ (W : World) (q : Option Addr), (Builtin.unsafeString_ #[109, 3] 9 #[.pointer q, .int .i64 0]).run Try.prog W = .ok (.string .empty) W := fun W q => Lib.run_unsafeString_none W _ _ _ q
  have c1 : w.drew.cell? ⟨b, 1, none⟩ = some (.slice none 0 0) := by
    have : w.drew.heap[b]? = some (.cells #[p, .slice none 0 0] 55 (0, 0)) := hbk
    rw [Lib.cell_of_heap this]; rfl
  have hSD : (Builtin.unsafeSliceData_ #[35] 109 #[.slice none 0 0]).run Try.prog w.drew = .ok (.pointer none) w.drew := rfl
  go_enter Try.func42, Try.ntmps42
  go_wp2
  go_region
  all_goals (go_wp2; go_ret; exact ⟨rfl, rfl⟩)

theorem freeze_heap {w : World} {g n : Nat} {cur : Array Value} {e : TypeId} (hn : n ≠ 0) (hg : w.heap[g]? = some (.cells cur e (0, 0))) : (w.freeze ⟨g, 0, none⟩ n).heap[g]? = some (.cells cur e (0, n)) := by
  simp [World.freeze, hn, Array.getElem?_modify, hg]
theorem freeze_other {w : World} {g n k : Nat} (hk : k ≠ g) : (w.freeze ⟨g, 0, none⟩ n).heap[k]? = w.heap[k]? := by
  unfold World.freeze
  split
  · rfl
  · simp only [Array.getElem?_modify]
    rw [if_neg (fun e => hk e.symm)]
theorem freeze_size (w : World) (g n : Nat) : (w.freeze ⟨g, 0, none⟩ n).heap.size = w.heap.size := by
  unfold World.freeze
  split
  · rfl
  · simp
theorem freeze_cell {w : World} {g n : Nat} {cur : Array Value} {e : TypeId} (hn : n ≠ 0) (hg : w.heap[g]? = some (.cells cur e (0, 0))) (b j : Nat) : (w.freeze ⟨g, 0, none⟩ n).cell? ⟨b, j, none⟩ = w.cell? ⟨b, j, none⟩ := by
  by_cases hb : b = g
  · subst hb
    simp [World.cell?, freeze_heap hn hg, hg]
  · exact World.cell?_of_block (a := ⟨b, j, none⟩) (freeze_other hb)

theorem octs_flat (bs : List Nat) (hb : ∀ n ∈ bs, n ≤ 255) (j : Nat) (x : UInt8) (h : (bs.map fun n => UInt8.ofNat n)[j]? = some x) : (octs bs).flatten[j]? = some (.int .u8 x.toNat) := by
  have e : ∀ l : List Nat, (octs l).flatten = l.map fun (n : Nat) => Value.int .u8 (n : Int) := by
    intro l
    induction l with
    | nil => rfl
    | cons a l ih =>
      have : octs (a :: l) = [.int .u8 (a : Int)] :: octs l := rfl
      rw [this, List.flatten_cons, ih]
      rfl
  rw [e]
  rw [List.getElem?_map] at h ⊢
  cases hj : bs[j]? with
  | none => rw [hj] at h; cases h
  | some n =>
    rw [hj] at h
    simp only [Option.map_some, Option.some.injEq] at h ⊢
    subst h
    have := hb n (List.mem_of_getElem? hj)
    simp
    omega

theorem string_ok {u : Bool} {id : Nat} {q : AV} {bs : List Nat} {bx : List (Nat × List AV)} {tp : List (Nat × TypeId)} {nx : Nat} {K : AV → List (Nat × List AV) → List (Nat × TypeId) → Nat → Prop}
    (hb : boxAt bx id = some [selfP u id, q]) (hq : bufP q bs tp nx) (hbs : ∀ n ∈ bs, n ≤ 255) (hK : K (.lit (.string (txt bs))) bx [] nx) : CallOK Try.prog 42 [.rf (.var 55 2) id] bx tp nx K := by
  refine ⟨enters_of Try.func42 (by kernel_rfl) (by kernel_rfl), fun c w vs hm hn hr => ?_⟩
  simp only [RepL, Rep, RefOK] at hr
  obtain ⟨v, vs', hvs, ⟨hid, arr, rfl, hrow, hsz⟩, rfl⟩ := hr
  have hrow0 := row_zero hm hb hrow
  have hrep := row_cells hm hb hrow0
  have hvs2 : vs = #[.pointer (some ⟨c.β id, 0, none⟩)] := by rw [← Array.toArray_toList (xs := vs), hvs]
  subst hvs2
  obtain ⟨x, y, rfl⟩ : ∃ x y, arr = #[x, y] := by
    match arr, hsz with
    | ⟨[x, y]⟩, _ => exact ⟨x, y, rfl⟩
  simp only [List.length_cons, List.length_nil, List.take, RepL] at hrep
  obtain ⟨x1, xs1, he1, hx, y1, ys1, rfl, hy, rfl⟩ := hrep
  simp only [List.cons.injEq, and_true] at he1
  obtain ⟨rfl, rfl⟩ := he1
  have hmem := boxAt_mem hb
  rcases hq with ⟨rfl, rfl⟩ | ⟨t, rfl, ht, hlt, hne0⟩
  · simp only [Rep] at hy
    subst hy
    refine (string_nil (c.β id) x w hrow0).mono ?_
    rintro e w' ⟨rfl, rfl⟩
    exact ⟨_, c, _, bx, [], rfl, Ext.drew _ _ _, Nat.le_refl _, rfl, hm.drew.forget (List.Sublist.refl _) (List.nil_sublist _), by simp only [Rep]; rfl, hn ▸ hK⟩
  · simp only [Rep] at hy
    obtain ⟨⟨a, cap, rfl, hle, hEls, hread⟩, htip⟩ := hy
    obtain ⟨_, hτ⟩ := htip t rfl
    have hT := hm.tips _ (hasTip_mem ht)
    have hlen : (octs bs).length = bs.length := octs_length bs
    have hbl : bs.length ≠ 0 := fun e => hne0 (List.length_eq_zero_iff.1 e)
    rcases hT.row with h1 | ⟨g, n, cap', cur, h1, hbase, hg, hnc, hcm, hcs, hpr⟩
    · simp only at h1
      rw [hτ] at h1
      simp only [Value.slice.injEq] at h1
      omega
    · simp only at h1
      rw [hτ] at h1
      simp only [Value.slice.injEq] at h1
      obtain ⟨rfl, rfl, rfl⟩ := h1
      rcases hread with hr0 | ⟨b, off, hbo, hrd⟩
      · rw [hr0] at hlen; simp at hlen; omega
      · simp only [Option.some.injEq, Addr.mk.injEq] at hbo
        obtain ⟨rfl, rfl, _⟩ := hbo
        have hl2 : (bs.map fun n => UInt8.ofNat n).length = (octs bs).length := by rw [List.length_map, hlen]
        rw [← hl2] at hrow0
        rw [cellsByte, Nat.mul_one] at hcs
        have hl3 : (bs.map fun n => UInt8.ofNat n).length ≠ 0 := by rw [List.length_map]; exact hbl
        refine (string_row (c.β id) g cap x cur (bs.map fun n => UInt8.ofNat n) w hrow0 hg (by rw [hl2]; exact hle) hcm hcs hl3 (fun j x hx => by
          have := (hrd j _ (octs_flat bs hbs j x hx)).2
          rwa [Nat.zero_add] at this)).mono ?_
        rintro e w' ⟨rfl, rfl⟩
        generalize (bs.map fun n => UInt8.ofNat n).length = L at hl3
        have hgd : w.drew.heap[g]? = some (.cells cur 5 (0, 0)) := hg
        have hX : Ext c.next c w.drew c (w.drew.freeze ⟨g, 0, none⟩ L) := ⟨rfl, rfl, rfl, by rw [freeze_size]; exact Nat.le_refl _, fun _ _ => ⟨rfl, rfl⟩, fun b j _ hp => ⟨hp, freeze_cell hl3 hgd b j⟩,
          Stays.of_one hgd (freeze_heap hl3 hgd) rfl (fun b _ hb => freeze_other hb), fun b es n _ hb => (freeze_other (fun e => by rw [e] at hb; exact absurd (hgd.symm.trans hb) (by simp))).trans hb⟩
        have hX2 := (Ext.drew c.next c w).trans hX
        have hcross : ∀ y ∈ bx, c.β y.1 ≠ g := fun y hy e => hm.cross _ (hasTip_mem ht) y hy (by simp only; rw [hτ]; simp [Value.ownBlock, e])
        have hm1 := hm.drew
        refine ⟨_, c, _, bx, [], rfl, hX2, Nat.le_refl _, rfl, ⟨fun y hy => (hm1.boxes y hy).ext hX (Nat.le_refl _) (freeze_other (hcross y hy)) fun _ hj => hj, hm1.apart, by simp, by simp, by simp, by simp, Lib.below_freeze hm1.below (p := ⟨g, 0, none⟩) hbase _, by rw [freeze_size]; exact hm1.baseLe, fun b j hp => by rw [freeze_size]; exact hm1.plt b j hp, hm1.pold⟩, by simp only [Rep]; rfl, hn ▸ hK⟩
end Go.Proofs.Ytmhpjoadfgplgaa
