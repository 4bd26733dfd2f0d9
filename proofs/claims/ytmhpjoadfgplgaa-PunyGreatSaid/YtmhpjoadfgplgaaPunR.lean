/-
Insert's contract at a row that may be written. Conditions: none.
-/
import Derived.Test.YtmhpjoadfgplgaaPunQ
set_option linter.unusedSimpArgs false
set_option linter.unusedVariables false
set_option linter.unusedSectionVars false
namespace Go.Proofs.Ytmhpjoadfgplgaa
open Go Go.Ab Go.RowKit

theorem shift_list {α : Type} {A X : List α} {n i : Nat} (v : α) (hX : A.take n = X) (hi : i ≤ n) (hn : n + 1 ≤ A.length) :
    ((A.take (i + 1) ++ X.drop i ++ A.drop (i + 1 + (n - i))).take i ++ [v] ++ (A.take (i + 1) ++ X.drop i ++ A.drop (i + 1 + (n - i))).drop (i + 1)).length = A.length ∧
    ((A.take (i + 1) ++ X.drop i ++ A.drop (i + 1 + (n - i))).take i ++ [v] ++ (A.take (i + 1) ++ X.drop i ++ A.drop (i + 1 + (n - i))).drop (i + 1)).take (n + 1) = X.take i ++ v :: X.drop i := by
  have hXl : X.length = n := by rw [← hX, List.length_take]; omega
  have h1 : (A.take (i + 1)).length = i + 1 := by rw [List.length_take]; omega
  have e1 : (A.take (i + 1) ++ X.drop i ++ A.drop (i + 1 + (n - i))).take i = X.take i := by
    rw [List.append_assoc, List.take_append_of_le_length (by omega), List.take_take, ← hX, List.take_take]
    congr 1; omega
  have e2 : (A.take (i + 1) ++ X.drop i ++ A.drop (i + 1 + (n - i))).drop (i + 1) = X.drop i ++ A.drop (i + 1 + (n - i)) := by
    rw [List.append_assoc, List.drop_left' h1]
  rw [e1, e2]
  refine ⟨?_, ?_⟩
  · simp only [List.length_append, List.length_take, List.length_drop, List.length_singleton]; omega
  · rw [show X.take i ++ [v] ++ (X.drop i ++ A.drop (i + 1 + (n - i))) = (X.take i ++ v :: X.drop i) ++ A.drop (i + 1 + (n - i)) by simp]
    rw [List.take_left' (by simp only [List.length_append, List.length_take, List.length_cons, List.length_drop]; omega)]

theorem ins_row_ok {id i t2 : Nat} {xs : List Int} {r : Int} {bx : List (Nat × List AV)} {tp : List (Nat × TypeId)} {nx : Nat} {K : AV → List (Nat × List AV) → List (Nat × TypeId) → Nat → Prop}
    (hi : i ≤ xs.length) (hl : xs.length ≤ 1000000) (hb : boxAt bx id = some (cI xs)) (ht : hasTip tp t2 21 = true)
    (hK : K (.rf (.row 21 1 0 (xs.length + 1)) nx) ((nx, cI (xs.take i ++ r :: xs.drop i)) :: delBox bx id) tp (nx + 1)) :
    CallOK Try.prog 49 [.rf (.row 21 1 0 xs.length) id, .lit (.int .i64 (i : Int)), .sl 21 (runes [r]) (some t2)] bx tp nx K := by
  refine ⟨enters_of Try.func49 (by kernel_rfl) (by kernel_rfl), fun c w vs hm hn hr => ?_⟩
  simp only [RepL, Rep, RefOK] at hr
  obtain ⟨v1, l1, hvs, ⟨hid, o, cap, arr, rfl, g2, g3, g4, g5, g6, g7, g8, g9⟩, v2, l2, rfl, rfl, v3, l3, rfl, ⟨⟨a, vcap, rfl, hvc, hEls, hread⟩, htip⟩, rfl⟩ := hr
  obtain ⟨rfl, hsz⟩ := g9 trivial
  rw [Nat.mul_one] at hsz
  subst hsz
  replace g7 := row_zero hm hb g7
  have hτ := (htip t2 rfl).2
  have hT := hm.tips _ (hasTip_mem ht)
  have hmem := boxAt_mem hb
  have hrl : (runes [r]).length = 1 := rfl
  rw [hrl] at hτ hvs hvc
  rcases hT.row with h1 | ⟨g, n, cap', cur, h1, hbase, hg, hnc, hcm, hcs, hpr⟩
  · simp only at h1
    rw [hτ] at h1
    simp only [Value.slice.injEq] at h1
    omega
  · simp only at h1
    rw [hτ] at h1
    simp only [Value.slice.injEq] at h1
    obtain ⟨rfl, rfl, rfl⟩ := h1
    simp only at hg hcs hpr
    have hvs2 : vs = #[.slice (some ⟨c.β id, 0, none⟩) xs.length arr.size, .int .i64 (i : Int), .slice (some ⟨g, 0, none⟩) 1 vcap] := by rw [← Array.toArray_toList (xs := vs), hvs]
    subst hvs2
    have hne : g ≠ c.β id := fun e => hm.cross _ (hasTip_mem ht) _ hmem (by simp only; rw [hτ]; simp [Value.ownBlock, e])
    have hcell : w.cell? ⟨g, 0, none⟩ = some (.int .i32 r) := by
      rcases hread with h0 | ⟨b, off, hbo, hrd⟩
      · simp [runes] at h0
      · simp only [Option.some.injEq, Addr.mk.injEq] at hbo
        obtain ⟨rfl, rfl, _⟩ := hbo
        exact (hrd 0 _ (by simp [runes])).2
    have hrep := row_cells hm hb g7
    rw [cI_vI] at hrep
    have htake := RepL.of_lits hrep
    rw [List.length_map, vI_length] at htake
    have hcs : ∀ j v, (vI xs)[j]? = some v → w.cell? ⟨c.β id, 0 + j, none⟩ = some v := fun j v hj => by
      rw [Nat.zero_add, Lib.cell_of_heap g7]
      rw [← htake, List.getElem?_take] at hj
      split at hj
      · simpa using hj
      · cases hj
    have hvz : ∀ j v, [Value.int .i32 r][j]? = some v → w.cell? ⟨g, 0 + j, none⟩ = some v := fun j v hj => by
      cases j with
      | zero => simp at hj; subst hj; exact hcell
      | succ j => simp at hj
    have hspare : ∀ j, j < arr.size → (w.cell? ⟨c.β id, 0 + j, none⟩).isSome = true := fun j hj => by
      rw [Nat.zero_add, Lib.cell_of_heap g7, Array.getElem?_eq_getElem hj]; rfl
    have hfz : ∀ j, w.frozen? ⟨c.β id, 0 + j, none⟩ = false := fun j => Lib.frozen_of_heap g7 _
    have h1v : ∀ v ∈ [Value.int .i32 r], v.oneCell' = true := fun v hv => by simp at hv; subst hv; rfl
    have hmx : arr.size ≤ 9223372036854775807 := by unfold maxLen at g4; exact g4
    obtain ⟨ys, hys⟩ : ∃ ys, ys = xs.take i ++ r :: xs.drop i := ⟨_, rfl⟩
    have hyl : ys.length = xs.length + 1 := by rw [hys]; simp only [List.length_append, List.length_take, List.length_cons, List.length_drop]; omega
    have hyv : vI ys = (vI xs).take i ++ .int .i32 r :: (vI xs).drop i := by rw [hys]; simp [vI, List.map_take, List.map_drop]
    rw [← hys, ← hyl, ← hn] at hK
    have hal : arr.toList.length = arr.size := Array.length_toList
    have hkB : arr.size ≠ 0 ∨ arr.size = 0 := by omega
    by_cases hroom : xs.length + 1 ≤ arr.size
    · rcases Nat.lt_or_eq_of_le hi with hlt | heq
      · obtain ⟨q1, q2⟩ := shift_list (.int .i32 r : Value) htake hi (by omega)
        refine (ins_shift (c.β id) 0 xs.length arr.size i g 0 1 vcap (vI xs) [.int .i32 r] w hlt (by omega) hroom hmx hne (vI_length xs) rfl hcs (fun j hj => hspare j (by omega)) (fun j _ => hfz j) hvz (vI_one xs) h1v 21 21 cur.size arr.size (by simp [World.shape?, hg]) (by simp [World.shape?, g7]) (by omega) (Lib.frozen_of_heap hg _) (Lib.frozen_of_heap hg _)).mono ?_
        rintro e w' ⟨rfl, rfl⟩
        have hg7 : w.drew.heap[c.β id]? = some (.cells arr 21 (0, 0)) := g7
        have hdl : ((vI xs).drop i).length = xs.length - i := by rw [List.length_drop, vI_length]
        rw [setCells_row _ _ _ arr hg7 (by rw [hdl]; omega), setCells_row _ _ _ _ (setRow_heap _ _ _ _ _ _ hg7) (by simp only [List.length_singleton, List.size_toArray, List.length_append, List.length_take, List.length_drop, vI_length]; omega), setRow_setRow]
        simp only [Nat.zero_add, hdl, List.length_singleton]
        obtain ⟨c', x1, x2, x3, x4, x5⟩ := fin_place (ys := ys) hm.drew hmem hg7 (arr2 := ((arr.toList.take (i + 1) ++ (vI xs).drop i ++ arr.toList.drop (i + 1 + (xs.length - i))).take i ++ [(.int .i32 r : Value)] ++ (arr.toList.take (i + 1) ++ (vI xs).drop i ++ arr.toList.drop (i + 1 + (xs.length - i))).drop (i + 1)).toArray) (by rw [List.size_toArray, q1]; exact hal) (by rw [hyl, hyv]; exact q2) (by omega) g4
        refine ⟨_, c', _, _, tp, rfl, (Ext.drew _ _ _).trans x1, by omega, x3, x4, by rw [hyl] at x5; exact x5, ?_⟩
        rw [x2]; rw [hyl] at hK; exact hK
      · subst heq
        have hy2 : (arr.toList.take xs.length ++ [(.int .i32 r : Value)] ++ arr.toList.drop (xs.length + 1)).take ys.length = vI ys := by
          rw [htake, hyl, List.take_left' (by rw [List.length_append, vI_length]; rfl), hyv, List.take_of_length_le (by rw [vI_length]; exact Nat.le_refl _), List.drop_of_length_le (by rw [vI_length]; exact Nat.le_refl _)]
        refine (ins_end_room (c.β id) 0 xs.length arr.size g 0 1 vcap [.int .i32 r] w (by omega) hroom hmx rfl (fun j hj => by rw [Nat.add_assoc]; exact hspare _ (by omega)) (fun j _ => by rw [Nat.add_assoc]; exact hfz _) hvz h1v).mono ?_
        rintro e w' ⟨rfl, rfl⟩
        rw [setCells_row _ _ _ arr g7 (by simp only [List.length_singleton]; omega)]
        simp only [Nat.zero_add, List.length_singleton]
        obtain ⟨c', x1, x2, x3, x4, x5⟩ := fin_place (ys := ys) hm hmem g7 (arr2 := (arr.toList.take xs.length ++ [(.int .i32 r : Value)] ++ arr.toList.drop (xs.length + 1)).toArray) (by simp only [List.size_toArray, List.length_append, List.length_take, List.length_drop, List.length_singleton]; omega) hy2 (by omega) g4
        refine ⟨_, c', _, _, tp, rfl, x1, by omega, x3, x4, by rw [hyl] at x5; exact x5, ?_⟩
        rw [x2]; rw [hyl] at hK; exact hK
    · have hcap : arr.size = xs.length := by omega
      rcases Nat.lt_or_eq_of_le hi with hlt | heq
      · refine (ins_grow (c.β id) 0 xs.length arr.size i g 0 1 vcap (vI xs) [.int .i32 r] w hlt (by omega) (by omega) (by omega) (by omega) (vI_length xs) rfl hcs hvz (vI_one xs) h1v).mono ?_
        rintro e w' ⟨rfl, rfl⟩
        have hge := grownCap_ge w (xs.length + 1) arr.size 21
        have hcm2 := grownCap_le_maxLen w (xs.length + 1) arr.size 21 (by unfold maxLen; omega)
        obtain ⟨G, hG⟩ : ∃ G, G = grownCap w (xs.length + 1) arr.size 21 := ⟨_, rfl⟩
        rw [← hG] at hge hcm2 ⊢
        obtain ⟨ROW, hROW⟩ : ∃ ROW : Array Value, ROW = ((vI xs).take i).toArray ++ Builtin.zeroCells (Value.int .i32 0).cells (xs.length + 1 - i) ++ Builtin.zeroCells (Value.int .i32 0).cells (G - (xs.length + 1)) := ⟨_, rfl⟩
        rw [← hROW]
        have hRs : ROW.size = G := by rw [hROW]; simp [Builtin.zeroCells, Value.cells, vI_length]; omega
        have hRl : ROW.toList.length = G := by rw [Array.length_toList, hRs]
        have hRt : ROW.toList.take i = (vI xs).take i := by
          rw [hROW, Array.toList_append, Array.toList_append, List.append_assoc, List.take_left' (by simp [vI_length]; omega)]
        have hdl : ((vI xs).drop i).length = xs.length - i := by rw [List.length_drop, vI_length]
        have h0 : ((w.alloc (.cells ROW 21)).drew).heap[w.heap.size]? = some (.cells ROW 21 (0, 0)) := heap_alloc_new w _
        obtain ⟨R1, hR1⟩ : ∃ R1 : Array Value, R1 = (ROW.toList.take i ++ [(.int .i32 r : Value)] ++ ROW.toList.drop (i + 1)).toArray := ⟨_, rfl⟩
        have hR1s : R1.size = G := by rw [hR1]; simp only [List.size_toArray, List.length_append, List.length_take, List.length_drop, List.length_singleton, hRl]; omega
        have hR1l : R1.toList.length = G := by rw [Array.length_toList, hR1s]
        have e1 := setCells_row (fr := (0, 0)) [(.int .i32 r : Value)] i _ ROW h0 (by rw [List.length_singleton, hRs]; omega)
        rw [List.length_singleton, ← hR1] at e1
        rw [e1]
        have h1 : (((w.alloc (.cells ROW 21)).drew.setRow w.heap.size R1).drew).heap[w.heap.size]? = some (.cells R1 21 (0, 0)) := setRow_heap _ _ _ _ _ _ h0
        obtain ⟨R2, hR2⟩ : ∃ R2 : Array Value, R2 = (R1.toList.take (i + 1) ++ (vI xs).drop i ++ R1.toList.drop (i + 1 + (xs.length - i))).toArray := ⟨_, rfl⟩
        have hR2s : R2.size = G := by rw [hR2]; simp only [List.size_toArray, List.length_append, List.length_take, List.length_drop, hR1l, vI_length]; omega
        have e2 := setCells_row (fr := (0, 0)) ((vI xs).drop i) (i + 1) _ R1 h1 (by rw [hdl, hR1s]; omega)
        rw [hdl, ← hR2] at e2
        rw [e2]
        have hy2 : R2.toList.take ys.length = vI ys := by
          have a1 : R1.toList.take (i + 1) = (vI xs).take i ++ [.int .i32 r] := by
            rw [hR1]
            simp only
            rw [List.take_left' (by simp only [List.length_append, List.length_take, List.length_singleton, hRl]; omega), hRt]
          rw [hR2]
          simp only
          rw [List.take_left' (by rw [a1, hyl]; simp only [List.length_append, List.length_take, List.length_singleton, List.length_drop, vI_length]; omega), a1, hyv]
          simp
        have hw2 : ((w.alloc (.cells ROW 21)).drew.setRow w.heap.size R1).drew.setRow w.heap.size R2 = w.drew.drew.alloc (.cells R2 21 (0, 0)) := by
          simp only [World.setRow, World.alloc, World.drew]
          congr 1
          apply Array.ext_getElem?
          intro k
          simp only [Array.getElem?_modify, Array.getElem?_push]
          by_cases hk : w.heap.size = k
          · subst hk; simp
          · simp [hk, Ne.symm hk]
        rw [hw2]
        obtain ⟨c', x1, x2, x3, x4, x5⟩ := fin_new (ys := ys) hm.drew.drew id hy2 (by rw [hR2s, hyl]; exact hge) (by rw [hR2s]; exact hcm2)
        rw [hR2s] at x5
        refine ⟨_, c', _, _, tp, rfl, ((Ext.drew _ _ _).trans (Ext.drew _ _ _)).trans x1, by omega, x3, x4, by rw [hyl] at x5; exact x5, ?_⟩
        rw [x2]; rw [hyl] at hK; exact hK
      · subst heq
        refine (ins_end_grow (some ⟨c.β id, 0, none⟩) xs.length arr.size g 0 1 vcap (vI xs) [.int .i32 r] w (by omega) (by omega) (by omega) (by omega) (vI_length xs) rfl (fun h => by cases h) (fun a ha j v hj => by
          simp only [Option.some.injEq] at ha; subst ha
          rw [add_lit]; exact hcs j v hj) hvz h1v).mono ?_
        rintro e w' ⟨rfl, rfl⟩
        have hge := grownCap_ge w (xs.length + 1) arr.size 21
        have hcm2 := grownCap_le_maxLen w (xs.length + 1) arr.size 21 (by unfold maxLen; omega)
        have hasz : ((vI xs ++ [(.int .i32 r : Value)]).toArray ++ Builtin.zeroCells (Value.int .i32 0).cells (grownCap w (xs.length + 1) arr.size 21 - (xs.length + 1))).size = grownCap w (xs.length + 1) arr.size 21 := by
          simp [Builtin.zeroCells, Value.cells, vI_length]; omega
        have hy2 : ((vI xs ++ [(.int .i32 r : Value)]).toArray ++ Builtin.zeroCells (Value.int .i32 0).cells (grownCap w (xs.length + 1) arr.size 21 - (xs.length + 1))).toList.take ys.length = vI ys := by
          rw [Array.toList_append, List.take_left' (by rw [hyl]; simp [vI_length]), hyv, List.take_of_length_le (by rw [vI_length]; exact Nat.le_refl _), List.drop_of_length_le (by rw [vI_length]; exact Nat.le_refl _)]
        obtain ⟨c', x1, x2, x3, x4, x5⟩ := fin_new (ys := ys) hm.drew id hy2 (by rw [hasz, hyl]; exact hge) (by rw [hasz]; exact hcm2)
        rw [hasz] at x5
        refine ⟨_, c', _, _, tp, rfl, (Ext.drew _ _ _).trans x1, by omega, x3, x4, by rw [hyl] at x5; exact x5, ?_⟩
        rw [x2]; rw [hyl] at hK; exact hK
end Go.Proofs.Ytmhpjoadfgplgaa
