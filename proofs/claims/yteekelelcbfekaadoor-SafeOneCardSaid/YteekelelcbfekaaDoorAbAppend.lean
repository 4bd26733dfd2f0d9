/-
What an append does to the memory of the abstract machine. Conditions: none.
-/
import Derived.Test.YteekelelcbfekaaDoorAbMem
set_option linter.unusedSimpArgs false
set_option linter.unusedVariables false
set_option linter.unusedSectionVars false
namespace Go.Ab
open Go Go.RowKit

section
variable {P : Program} {N : Nat} {c c' : Ctx} {w w' : World} {s : State} {a : Act} {bx : List (Nat × List AV)} {tp : List (Nat × TypeId)}

theorem add_lit (b off j : Nat) : (⟨b, off, none⟩ : Addr).add j = ⟨b, off + j, none⟩ := by
  unfold Addr.add; split <;> simp_all

theorem Els.flatten_length {e : TypeId} : ∀ {els : List (List Value)}, Els P e els → els.flatten.length = els.length * P.cellsOf e
  | [], _ => by simp
  | x :: l, h => by
    have h1 := (h x (by simp)).1
    have h2 := Els.flatten_length (e := e) (els := l) fun y hy => h y (List.mem_cons_of_mem _ hy)
    simp only [List.flatten_cons, List.length_append, List.length_cons, h1, h2, Nat.add_mul, Nat.one_mul]
    omega

theorem take_of_get {cur F : List Value} (h : ∀ (j : Nat) (v : Value), F[j]? = some v → cur[j]? = some v) : cur.take F.length = F := by
  apply List.ext_getElem?
  intro j
  rw [List.getElem?_take]
  split
  · rename_i hj
    rw [h j F[j] (List.getElem?_eq_getElem hj), List.getElem?_eq_getElem hj]
  · rename_i hj
    rw [List.getElem?_eq_none (by omega)]

theorem Els.append {e : TypeId} {l l' : List (List Value)} (h : Els P e l) (h' : Els P e l') : Els P e (l ++ l') := fun x hx => by
  rcases List.mem_append.1 hx with hx | hx
  · exact h x hx
  · exact h' x hx

theorem Els.one {e : TypeId} {l : List (List Value)} (h : Els P e l) : ∀ u ∈ l.flatten, u.oneCell' = true := fun u hu => by
  obtain ⟨x, hx, hux⟩ := List.mem_flatten.1 hu
  exact (h x hx).2 u hux

theorem cellsOf_eq {e : TypeId} {i : TypeInfo} (hi : P.info? e = some i) : P.cellsOf e = i.size := by
  simp [Program.cellsOf, hi]

/-- Cells that lie in a row can be read, if they are kept. -/
theorem reads_row {g : Nat} {cur : Array Value} {e : TypeId} {fr : Nat × Nat} (hh : w.heap[g]? = some (.cells cur e fr)) {cells : List Value} (hp : ∀ j, j < cells.length → c.prot g j)
    (hc : cur.toList.take cells.length = cells) : Reads c w g 0 cells := fun j v hj => by
  have hlt : j < cells.length := (List.getElem?_eq_some_iff.1 hj).1
  rw [Nat.zero_add]
  refine ⟨hp j hlt, ?_⟩
  rw [cell_of_row w g j cur e fr hh]
  rw [← hc, List.getElem?_take] at hj
  simp at hj
  exact hj.2

theorem Mem.addTip (h : Mem P c bx tp w) {e : TypeId} {v : Value} (hown : OwnOK P c bx tp w e v) : Mem P (c.newTip v c.prot) bx ((c.next, e) :: tp) w := by
  have hx : Ext c.next c w (c.newTip v c.prot) w := ⟨rfl, rfl, rfl, Nat.le_refl _, fun id hid => ⟨rfl, by simp [Ctx.newTip]; omega⟩, fun _ _ _ hp => ⟨hp, rfl⟩, Stays.of_eq fun _ _ => rfl, fun _ _ _ _ h => h⟩
  have hτ : ∀ id, id < c.next → (c.newTip v c.prot).τ id = c.τ id := fun id hid => (hx.ids id hid).2
  have hτn : (c.newTip v c.prot).τ c.next = v := by simp [Ctx.newTip]
  refine ⟨fun x hm => (h.boxes x hm).ext hx (Nat.le_succ _) rfl fun _ hj => hj, h.apart, ?_, ?_, ?_, ?_, h.below, h.baseLe, h.plt, h.pold⟩
  · intro x hm
    rcases List.mem_cons.1 hm with rfl | hm
    · refine ⟨Nat.lt_succ_self _, ?_⟩
      rw [hτn]
      rcases hown with h1 | ⟨g, n, cap, cur, h1, h2, h3, h4, h5, h6, h7, _⟩
      · exact .inl h1
      · exact .inr ⟨g, n, cap, cur, h1, h2, h3, h4, h5, h6, h7⟩
    · exact (h.tips x hm).ext hx (Nat.le_succ _) (fun _ _ => rfl) fun _ _ _ hj => hj
  · refine List.pairwise_cons.2 ⟨fun y hy k hk => ?_, h.tapart.imp_of_mem fun {x y} hx' hy' hne => ?_⟩
    · rw [hτn] at hk
      rw [hτ _ (h.tips y hy).lt]
      rcases hown with h1 | ⟨g, n, cap, cur, h1, h2, h3, h4, h5, h6, h7, h8, h9⟩
      · rw [h1] at hk; simp [Value.ownBlock] at hk
      · rw [h1] at hk; simp [Value.ownBlock] at hk; subst hk; exact h8 y hy
    · rw [hτ _ (h.tips x hx').lt, hτ _ (h.tips y hy').lt]; exact hne
  · exact List.pairwise_cons.2 ⟨fun y hy => Nat.ne_of_gt (h.tips y hy).lt, h.tids⟩
  · intro x hm y hy
    show (Ctx.τ _ x.1).ownBlock ≠ some (c.β y.1)
    rcases List.mem_cons.1 hm with rfl | hm
    · rw [hτn]
      rcases hown with h1 | ⟨g, n, cap, cur, h1, h2, h3, h4, h5, h6, h7, h8, h9⟩
      · rw [h1]; simp [Value.ownBlock]
      · rw [h1]; simp [Value.ownBlock]; exact fun he => h9 y hy he.symm
    · rw [hτ _ (h.tips x hm).lt]; exact h.cross x hm y hy

theorem Ext.addTip (c : Ctx) (w : World) (v : Value) : Ext c.next c w (c.newTip v c.prot) w :=
  ⟨rfl, rfl, rfl, Nat.le_refl _, fun id hid => ⟨rfl, by simp [Ctx.newTip]; omega⟩, fun _ _ _ hp => ⟨hp, rfl⟩, Stays.of_eq fun _ _ => rfl, fun _ _ _ _ h => h⟩

theorem OwnOK.drew {e : TypeId} {v : Value} (h : OwnOK P c bx tp w e v) : OwnOK P c bx tp w.drew e v := h

/-- An append in place: the row's first cells stay, others come behind them. -/
theorem Mem.inPlace (h : Mem P c bx tp w) {e : TypeId} {g n cap m : Nat} {cur : Array Value} {news : List Value} (hb : c.base ≤ g) (hh : w.heap[g]? = some (.cells cur e (0, 0))) (hnc : n + m ≤ cap) (hcm : cap ≤ maxLen)
    (hs : cur.size = cap * P.cellsOf e) (hp : ∀ j, c.prot g j → j < n * P.cellsOf e) (ht : ∀ x ∈ tp, (c.τ x.1).ownBlock ≠ some g) (hbx : ∀ y ∈ bx, c.β y.1 ≠ g) (hl : news.length = m * P.cellsOf e) (c1 : Ctx)
    (hc1 : c1 = c.newTip (.slice (some ⟨g, 0, none⟩) (n + m) cap) (fun b j => c.prot b j ∨ (b = g ∧ j < (n + m) * P.cellsOf e))) (w1 : World)
    (hw1 : w1 = w.setRow g (cur.toList.take (n * P.cellsOf e) ++ news ++ cur.toList.drop (n * P.cellsOf e + news.length)).toArray) :
    Ext c.next c w c1 w1 ∧ Mem P c1 bx ((c.next, e) :: tp) w1 := by
  have hfit : n * P.cellsOf e + news.length ≤ cur.size := by rw [hl, hs, ← Nat.add_mul]; exact Nat.mul_le_mul_right _ hnc
  have hrow : w1.heap[g]? = some (.cells (cur.toList.take (n * P.cellsOf e) ++ news ++ cur.toList.drop (n * P.cellsOf e + news.length)).toArray e (0, 0)) := by rw [hw1]; exact setRow_heap w g _ _ _ _ hh
  have hoth : ∀ k, k ≠ g → w1.heap[k]? = w.heap[k]? := fun k hk => by rw [hw1]; exact setRow_other w g k _ hk
  have hx : Ext c.next c w c1 w1 := by
    subst hc1
    refine ⟨rfl, rfl, rfl, by rw [hw1]; simp, fun id hid => ⟨rfl, by simp [Ctx.newTip]; omega⟩, fun b j hbl hpj => ⟨.inl hpj, ?_⟩, Stays.of_one hh hrow (by simp only [List.size_toArray, List.length_append, List.length_take, List.length_drop, Array.length_toList]; omega) fun b _ hb => hoth b hb, fun b es n _ hb => (hoth b fun e => by rw [e, hh] at hb; cases hb).trans hb⟩
    by_cases hbg : b = g
    · subst hbg
      have hj := hp j hpj
      rw [cell_of_row w1 b j _ e (0, 0) hrow, cell_of_row w b j _ e (0, 0) hh]
      have hlt : j < (List.take (n * P.cellsOf e) cur.toList).length := by simp; omega
      simp only [List.getElem?_toArray]
      rw [List.append_assoc, List.getElem?_append_left hlt, List.getElem?_take]
      simp [hj]
    · exact World.cell?_of_block (a := ⟨b, j, none⟩) (hoth b hbg)
  refine ⟨hx, ?_⟩
  have hτ : ∀ id, id < c.next → c1.τ id = c.τ id := fun id hid => (hx.ids id hid).2
  have hτn : c1.τ c.next = .slice (some ⟨g, 0, none⟩) (n + m) cap := by subst hc1; simp [Ctx.newTip]
  have hnext : c1.next = c.next + 1 := by subst hc1; rfl
  have hβ : c1.β = c.β := by subst hc1; rfl
  have hbase : c1.base = c.base := hx.base
  have hprot : ∀ b j, c1.prot b j → c.prot b j ∨ (b = g ∧ j < (n + m) * P.cellsOf e) := by subst hc1; exact fun _ _ h => h
  refine ⟨?_, by rw [hβ]; exact h.apart, ?_, ?_, ?_, ?_, ?_, ?_, ?_, fun b j hj hbb => by
    rw [hx.p0]; rw [hbase] at hbb
    exact (hprot _ _ hj).elim (fun hj => h.pold b j hj hbb) fun hj => absurd hbb (by rw [hj.1]; omega)⟩
  · exact fun x hm => (h.boxes x hm).ext hx (by omega) (hoth _ (hbx x hm)) fun j hj => (hprot _ _ hj).elim id fun hj => absurd hj.1 (hbx x hm)
  · intro x hm
    rcases List.mem_cons.1 hm with rfl | hm
    · refine ⟨by rw [hnext]; exact Nat.lt_succ_self _, .inr ⟨g, n + m, cap, _, hτn, by rw [hbase]; exact hb, hrow, hnc, hcm, ?_, fun j hj => ?_⟩⟩
      · simp only [List.size_toArray, List.length_append, List.length_take, List.length_drop, Array.length_toList]
        omega
      · rcases hprot _ _ hj with hj | hj
        · exact Nat.lt_of_lt_of_le (hp j hj) (Nat.mul_le_mul_right _ (Nat.le_add_right _ _))
        · exact hj.2
    · refine (h.tips x hm).ext hx (by omega) (fun k hk => hoth k fun he => ht x hm (by rw [hk, he])) fun k j hk hj => (hprot _ _ hj).elim id fun hj => absurd (by rw [hk, hj.1]) (ht x hm)
  · refine List.pairwise_cons.2 ⟨fun y hy k hk => ?_, h.tapart.imp_of_mem fun {x y} hx' hy' hne => ?_⟩
    · rw [hτn] at hk
      simp [Value.ownBlock] at hk
      subst hk
      rw [hτ _ (h.tips y hy).lt]
      exact ht y hy
    · rw [hτ _ (h.tips x hx').lt, hτ _ (h.tips y hy').lt]; exact hne
  · exact List.pairwise_cons.2 ⟨fun y hy => Nat.ne_of_gt (h.tips y hy).lt, h.tids⟩
  · intro x hm y hy
    rw [hβ]
    rcases List.mem_cons.1 hm with rfl | hm
    · rw [hτn]; simp [Value.ownBlock]; exact fun he => hbx y hy he.symm
    · rw [hτ _ (h.tips x hm).lt]; exact h.cross x hm y hy
  · rw [hbase, hx.w0, hw1]; exact Below.setRow h.below hb _
  · rw [hbase]; exact Nat.le_trans h.baseLe hx.size
  · intro b j hj
    rcases hprot _ _ hj with hj | hj
    · exact Nat.lt_of_lt_of_le (h.plt b j hj) hx.size
    · rw [hj.1]; exact (Array.getElem?_eq_some_iff.1 hrow).1

/-- APPEND to an own slice. -/
theorem Mem.append (h : Mem P c bx tp w) {t ty e : TypeId} {i : TypeInfo} {z : Value} (ht : P.underlying t = some (.slice e)) (hi : P.info? e = some i) (hz : i.zero = some z) (hzs : z.cells.size = i.size)
    {v v2 : Value} {els els2 : List (List Value)} (hv : RepSl P c w e els v) (hown : OwnOK P c bx tp w e v) (hv2 : RepSl P c w e els2 v2)
    (hb : (els.length + els2.length) * i.bytes ≤ 140737488355328) (h63 : els.length + els2.length ≤ maxLen) :
    ∃ v' c' w', (Builtin.append_ #[t, t] ty #[v, v2]).run P w = .ok v' w' ∧ Ext c.next c w c' w' ∧ c'.next = c.next + 1 ∧ c'.floor = c.floor ∧ RepSl P c' w' e (els ++ els2) v' ∧ c'.τ c.next = v' ∧
      Mem P c' bx ((c.next, e) :: tp) w' := by
  have hco := cellsOf_eq hi
  obtain ⟨a1, cap1, rfl, hcap1, hels, hrd⟩ := hv
  obtain ⟨a2, cap2, rfl, hcap2, hels2, hrd2⟩ := hv2
  by_cases he2 : els2 = []
  · subst he2
    refine ⟨.slice a1 els.length cap1, c.newTip (.slice a1 els.length cap1) c.prot, w, ?_, Ext.addTip c w _, rfl, rfl, ?_, by simp [Ctx.newTip], h.addTip hown⟩
    · cases a2 <;> cases a1 <;> simp [Builtin.append_, run_underlying ht, sizeOf, typeInfo, hi, Builtin.lenOf, Builtin.firstCells, loadCells, loadCellsFrom, storeCells, hcap1]
    · rw [List.append_nil]
      exact ⟨a1, cap1, rfl, hcap1, hels, hrd.imp id fun ⟨b, off, h1, h2⟩ => ⟨b, off, h1, h2.ext (Ext.addTip c w _)⟩⟩
  · obtain ⟨b2, off2, rfl, hr2⟩ := hrd2.resolve_left he2
    have hm : 0 < els2.length := List.length_pos_iff.2 he2
    have hl2 : els2.flatten.length = els2.length * i.size := by rw [hels2.flatten_length, hco]
    have hnews : ∀ j u, els2.flatten[j]? = some u → w.cell? ((⟨b2, off2, none⟩ : Addr).add j) = some u := fun j u hj => by rw [add_lit]; exact (hr2 j u hj).2
    have h1 := hels2.one
    have hsmall : els.length + els2.length ≤ 9223372036854775807 := by simp only [maxLen] at h63; omega
    have hap := hels.append hels2
    have hfl : (els ++ els2).flatten.length = (els.length + els2.length) * i.size := by rw [hap.flatten_length, hco, List.length_append]
    -- a new row
    have fresh : ∀ old, old < els.length + els2.length → ∃ c', Ext c.next c w c' (w.drew.alloc (.cells (els.flatten.toArray ++ els2.flatten.toArray ++ Builtin.zeroCells z.cells (grownCap w (els.length + els2.length) old e - (els.length + els2.length))) e)) ∧
        c'.next = c.next + 1 ∧ c'.floor = c.floor ∧ RepSl P c' (w.drew.alloc (.cells (els.flatten.toArray ++ els2.flatten.toArray ++ Builtin.zeroCells z.cells (grownCap w (els.length + els2.length) old e - (els.length + els2.length))) e)) e (els ++ els2)
          (.slice (some ⟨w.heap.size, 0, none⟩) (els.length + els2.length) (grownCap w (els.length + els2.length) old e)) ∧
        c'.τ c.next = .slice (some ⟨w.heap.size, 0, none⟩) (els.length + els2.length) (grownCap w (els.length + els2.length) old e) ∧
        Mem P c' bx ((c.next, e) :: tp) (w.drew.alloc (.cells (els.flatten.toArray ++ els2.flatten.toArray ++ Builtin.zeroCells z.cells (grownCap w (els.length + els2.length) old e - (els.length + els2.length))) e)) := by
      intro old ho
      have hge := grownCap_ge w (els.length + els2.length) old e
      have hcm : grownCap w (els.length + els2.length) old e ≤ maxLen := grownCap_le_maxLen w _ old e h63
      have hm1 := (h.drew).newRow (e := e) (n := els.length + els2.length) (cap := grownCap w (els.length + els2.length) old e)
        (cur := els.flatten.toArray ++ els2.flatten.toArray ++ Builtin.zeroCells z.cells (grownCap w (els.length + els2.length) old e - (els.length + els2.length))) hge hcm (by
          simp only [Array.size_append, List.size_toArray, size_zeroCells, hzs, hels.flatten_length, hels2.flatten_length, hco, ← Nat.add_mul]
          congr 1
          omega)
      have hx1 := (Ext.drew c.next c w).trans (Ext.newRow c w.drew (.cells (els.flatten.toArray ++ els2.flatten.toArray ++ Builtin.zeroCells z.cells (grownCap w (els.length + els2.length) old e - (els.length + els2.length))) e (0, 0))
        (.slice (some ⟨w.heap.size, 0, none⟩) (els.length + els2.length) (grownCap w (els.length + els2.length) old e)) w.heap.size ((els.length + els2.length) * P.cellsOf e))
      refine ⟨_, hx1, rfl, rfl, ⟨some ⟨w.heap.size, 0, none⟩, grownCap w (els.length + els2.length) old e, by rw [List.length_append], by rw [List.length_append]; exact hge, hap, .inr ⟨w.heap.size, 0, rfl, ?_⟩⟩, by simp [Ctx.newRow, Ctx.newTip], hm1⟩
      refine reads_row (heap_alloc_new w.drew _) (fun j hj => .inr ⟨rfl, by rw [hco, ← hfl]; exact hj⟩) ?_
      rw [List.flatten_append]
      simp only [Array.toList_append]
      rw [List.take_left']
      simp
    rcases hown with hnil | ⟨g, n, cap, cur, hs, hbg, hh, hnc, hcm, hcs, hpg, htg, hxg⟩
    · simp only [Value.slice.injEq] at hnil
      obtain ⟨rfl, hn0, rfl⟩ := hnil
      have hx : els = [] := List.eq_nil_of_length_eq_zero hn0
      subst hx
      obtain ⟨c', g1, g2, g3, g4, g5, g6⟩ := fresh 0 (by simp; omega)
      have hr := run_append_nil (P := P) w t ty e i z ht hi hz ⟨b2, off2, none⟩ els2.length cap2 els2.flatten hl2 hnews hm (by simp at hsmall; omega) (by simp only [List.length_nil, Nat.zero_add] at hb; omega)
      simp only [List.length_nil, Nat.zero_add, List.flatten_nil, List.nil_append] at g1 g4 g5 g6 hr ⊢
      refine ⟨_, c', _, hr, ?_, g2, g3, ?_, g5, ?_⟩
      · simpa using g1
      · simpa using g4
      · simpa using g6
    · simp only [Value.slice.injEq] at hs
      obtain ⟨rfl, rfl, rfl⟩ := hs
      have hold : Reads c w g 0 els.flatten := by
        rcases hrd with hrd | ⟨b, off, hbo, hrd⟩
        · subst hrd; exact Reads.nil _ _
        · simp only [Option.some.injEq, Addr.mk.injEq] at hbo
          obtain ⟨rfl, rfl, _⟩ := hbo
          exact hrd
      have htake : cur.toList.take (els.length * P.cellsOf e) = els.flatten := by
        rw [← hels.flatten_length]
        refine take_of_get fun j v hj => ?_
        have hjv := (hold j v hj).2
        rw [Nat.zero_add, cell_of_row w g j cur e (0, 0) hh] at hjv
        simpa using hjv
      by_cases hroom : els.length + els2.length ≤ cap1
      · obtain ⟨hx, hmem⟩ := h.inPlace (m := els2.length) (news := els2.flatten) hbg hh hroom hcm hcs hpg htg hxg (by rw [hels2.flatten_length]) _ rfl _ rfl
        have hfit : els.length * i.size + els2.flatten.length ≤ cur.size := by rw [hl2, hcs, hco, ← Nat.add_mul]; exact Nat.mul_le_mul_right _ hroom
        have hr := run_append_room (P := P) w t ty e i ht hi g els.length cap1 cur hh ⟨b2, off2, none⟩ els2.length cap2 els2.flatten hl2 hnews h1 hroom hfit
        rw [← hco] at hr
        refine ⟨_, _, _, hr, hx, rfl, rfl, ⟨some ⟨g, 0, none⟩, cap1, by rw [List.length_append], by rw [List.length_append]; exact hroom, hap, .inr ⟨g, 0, rfl, ?_⟩⟩, by simp [Ctx.newTip], hmem⟩
        refine reads_row (setRow_heap w g _ _ _ _ hh) (fun j hj => .inr ⟨rfl, by rw [hco, ← hfl]; exact hj⟩) ?_
        rw [htake, List.flatten_append, List.append_assoc, ← List.append_assoc, List.take_left']
        rfl
      · obtain ⟨c', g1, g2, g3, g4, g5, g6⟩ := fresh cap1 (by omega)
        have hr := run_append_grow (P := P) w t ty e i z ht hi hz ⟨g, 0, none⟩ els.length cap1 els.flatten (by rw [hels.flatten_length, hco]) (fun j u hj => by rw [add_lit]; exact (hold j u hj).2) ⟨b2, off2, none⟩ els2.length cap2 els2.flatten hl2 hnews (by omega) (by omega)
          (growslice_fits (by omega) hb)
        exact ⟨_, c', _, hr, g1, g2, g3, g4, g5, g6⟩
end
end Go.Ab
