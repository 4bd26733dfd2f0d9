/-
Walks in the abstract machine: code, calls, results. Conditions: none.
-/
import Derived.Test.YteekelelcbfekaaDoorAbCall
import Derived.RangeFuncNested
import Derived.RangeFuncLeaves
set_option linter.unusedSimpArgs false
set_option linter.unusedVariables false
set_option linter.unusedSectionVars false
namespace Go.Ab
open Go Go.RowKit

section
variable {P : Program} {N : Nat} {c c' : Ctx} {w w' : World} {s : State} {a : Act} {bx : List (Nat × List AV)} {tp : List (Nat × TypeId)}

theorem idx_mem : ∀ {l : List TypeId} {n : Nat} {x : Nat × TypeId}, x ∈ idx n l → n ≤ x.1 ∧ x.1 < n + l.length
  | e :: l, n, x, h => by
    simp only [idx] at h
    rcases List.mem_cons.1 h with rfl | h
    · simp
    · have := idx_mem h; simp; omega

theorem idx_shift : ∀ (l : List TypeId) (n m : Nat), idx (n + m) l = (idx n l).map fun x => (x.1 + m, x.2)
  | [], _, _ => rfl
  | e :: l, n, m => by
    simp only [idx, List.map_cons, List.cons.injEq, true_and]
    rw [show n + m + 1 = (n + 1) + m by omega]
    exact idx_shift l (n + 1) m

theorem Ext.join {bx' : List (Nat × List AV)} {tp' : List (Nat × TypeId)} (hx : Ext 0 (topC w c.prot) w c' w') (hm' : Mem P c' bx' tp' w') : Ext c.next c w (c.join w.heap.size c') w' := by
  refine ⟨rfl, rfl, rfl, hx.size, fun id hid => ⟨by simp [Ctx.join, hid], by simp [Ctx.join, hid]⟩, fun b j hb hp => ⟨by simp [Ctx.join, hb, hp], ?_⟩, hx.stays, hx.maps⟩
  have hbl := hm'.below
  rw [hx.base, hx.w0] at hbl
  exact hbl.cell (p := ⟨b, j, none⟩) hb

theorem Mem.join (hm : Mem P c bx tp w) {tys : List TypeId} (hx : Ext 0 (topC w c.prot) w c' w') (hm' : Mem P c' [] (idx 0 tys) w') (hn : c'.next = tys.length) : Mem P (c.join w.heap.size c') bx (idx c.next tys ++ tp) w' := by
  have hX := Ext.join hx hm'
  have hbl := hm'.below
  rw [hx.base, hx.w0] at hbl
  have hle : c.next ≤ (c.join w.heap.size c').next := by simp [Ctx.join]
  have hprot : ∀ b j, b < w.heap.size → (c.join w.heap.size c').prot b j → c.prot b j := fun b j hb hj => by simpa [Ctx.join, hb] using hj
  have hτo : ∀ x ∈ tp, (c.join w.heap.size c').τ x.1 = c.τ x.1 := fun x hx => (hX.ids x.1 (hm.tips x hx).lt).2
  have hτn : ∀ i, (c.join w.heap.size c').τ (i + c.next) = c'.τ i := fun i => by simp only [Ctx.join]; rw [if_neg (by omega), Nat.add_sub_cancel]
  have hidx : ∀ x ∈ idx c.next tys, ∃ y ∈ idx 0 tys, x = (y.1 + c.next, y.2) := fun x hx => by
    have := idx_shift tys 0 c.next
    rw [Nat.zero_add] at this
    rw [this] at hx
    obtain ⟨y, hy, rfl⟩ := List.mem_map.1 hx
    exact ⟨y, hy, rfl⟩
  have hnew : ∀ x ∈ idx 0 tys, ∀ g, (c'.τ x.1).ownBlock = some g → w.heap.size ≤ g := fun x hx1 g hg => by
    have := ((hm'.tips x hx1).block_lt hg).2
    rwa [hx.base] at this
  refine ⟨?_, ?_, ?_, ?_, ?_, ?_, ?_, ?_, ?_, ?_⟩
  · exact fun x hx1 => (hm.boxes x hx1).ext hX hle (hbl.block _ (hm.boxes x hx1).block_lt) fun j hj => hprot _ _ (hm.boxes x hx1).block_lt hj
  · refine hm.apart.imp_of_mem fun {x y} h1 h2 hne => ?_
    rw [(hX.ids _ (hm.boxes x h1).lt).1, (hX.ids _ (hm.boxes y h2).lt).1]
    exact hne
  · intro x hx1
    rcases List.mem_append.1 hx1 with hx1 | hx1
    · obtain ⟨y, hy, rfl⟩ := hidx x hx1
      have ho := hm'.tips y hy
      refine ⟨by have := ho.lt; simp [Ctx.join]; omega, ?_⟩
      rw [hτn]
      rcases ho.row with h1 | ⟨g, n, cap, cur, h1, h2, h3, h4, h5, h6, h7⟩
      · exact .inl h1
      · have hg : w.heap.size ≤ g := by rw [hx.base] at h2; exact h2
        refine .inr ⟨g, n, cap, cur, h1, Nat.le_trans hm.baseLe hg, h3, h4, h5, h6, fun j hj => h7 j ?_⟩
        simp only [Ctx.join] at hj
        rw [if_neg (by omega)] at hj
        exact hj
    · exact (hm.tips x hx1).ext hX hle (fun g hg => hbl.block _ ((hm.tips x hx1).block_lt hg).1) fun g j hg hj => hprot _ _ ((hm.tips x hx1).block_lt hg).1 hj
  · refine List.pairwise_append.2 ⟨?_, hm.tapart.imp_of_mem fun {x y} h1 h2 hne => by rw [hτo x h1, hτo y h2]; exact hne, ?_⟩
    · have := idx_shift tys 0 c.next
      rw [Nat.zero_add] at this
      rw [this, List.pairwise_map]
      exact hm'.tapart.imp fun hne => by simp only [hτn]; exact hne
    · intro x hx1 y hy k hk
      obtain ⟨z, hz, rfl⟩ := hidx x hx1
      simp only [hτn] at hk
      rw [hτo y hy]
      intro he
      have h1 := hnew z hz k hk
      have h2 := ((hm.tips y hy).block_lt he).1
      omega
  · refine List.pairwise_append.2 ⟨?_, hm.tids, ?_⟩
    · have := idx_shift tys 0 c.next
      rw [Nat.zero_add] at this
      rw [this, List.pairwise_map]
      exact hm'.tids.imp fun hne => by simp only; omega
    · intro x hx1 y hy
      have h1 := (idx_mem hx1).1
      have h2 := (hm.tips y hy).lt
      omega
  · intro x hx1 y hy
    rw [(hX.ids _ (hm.boxes y hy).lt).1]
    rcases List.mem_append.1 hx1 with hx1 | hx1
    · obtain ⟨z, hz, rfl⟩ := hidx x hx1
      simp only [hτn]
      intro he
      have h1 := hnew z hz _ he
      have h2 := (hm.boxes y hy).block_lt
      omega
    · rw [hτo x hx1]; exact hm.cross x hx1 y hy
  · exact hm.below.trans (hbl.mono hm.baseLe)
  · exact Nat.le_trans hm.baseLe hx.size
  · intro b j hj
    simp only [Ctx.join] at hj
    split at hj
    · exact Nat.lt_of_lt_of_le (hm.plt b j hj) hx.size
    · exact hm'.plt b j hj
  · intro b j hj hb
    exact hm.pold b j (hprot b j (Nat.lt_of_lt_of_le hb hm.baseLe) hj) hb

theorem callOK_pure {g : FuncId} {args args' : List AV} {tys : List TypeId} {r : AV} {nx : Nat} {K : AV → List (Nat × List AV) → List (Nat × TypeId) → Nat → Prop} (h : Pure P g args' tys r)
    (he : AV.eraseL args = some args') (hK : K (r.shift nx) bx (idx nx tys ++ tp) (nx + tys.length)) : CallOK P g args bx tp nx K := by
  refine ⟨h.1, fun c w vs hm hn hr => ?_⟩
  refine (h.2 w c.prot vs hm.plt (RepL.erase _ _ hr he)).mono ?_
  rintro e w' ⟨v, c', rfl, hx, hn', hm', hv⟩
  subst hn
  refine ⟨v, c.join w.heap.size c', _, _, _, rfl, Ext.join hx hm', by simp [Ctx.join], rfl, hm.join hx hm' hn', Rep.join (fun b off cells hR => Reads.join hx hm' hR) (fun _ _ h => prot_join hx hm' h) _ _ hv, ?_⟩
  show K _ _ _ (c.next + c'.next)
  rw [hn']
  exact hK

/-- All functions, any depth; the frame is of that round. -/
def fen (ro : Option Nat) : Fence := { Fence.wide with round := ro }

def AWP (P : Program) (N F : Nat) (A : Code) (Q : Exit → State → Prop) (s : State) : Prop :=
  ∀ c a w, c.floor.lim ≤ F → Rel P N c s a w → A.wpIn (fen c.floor.round) 0 P (fun e a' w' => ∃ c' s', Ext c.floor.lim c w c' w' ∧ c'.floor = c.floor ∧ Rel P N c' s' a' w' ∧ Q e s') a w

def argSlots (n : Nat) : List AV → List (Nat × Option AV)
  | [] => []
  | x :: l => (n, some x) :: argSlots (n + 1) l

theorem look_argSlots : ∀ {l : List AV} {n t : Nat} {av : AV}, look (argSlots n l) t = some av → n ≤ t ∧ l[t - n]? = some av
  | x :: l, n, t, av, h => by
    simp only [argSlots, look] at h
    split at h
    · rename_i he; subst he; simpa using h
    · rename_i he
      obtain ⟨h1, h2⟩ := look_argSlots h
      refine ⟨by omega, ?_⟩
      rw [show t - n = (t - (n + 1)) + 1 by omega]
      simpa using h2

def astart (args : List AV) (bx : List (Nat × List AV)) (tp : List (Nat × TypeId)) (nx : Nat) : State := { slots := argSlots 0 args, boxes := bx, tips := tp, next := nx }

theorem rel_start {args : List AV} {vs : Array Value} {nx : Nat} (hm : Mem P c bx tp w) (hn : c.next = nx) (hf : c.floor.lim ≤ c.next) (ho : c.floor.round = none) (hlow : c.floor.low ≤ w.heap.size) (hr : RepL P c w args vs.toList) (hN : vs.size ≤ N) :
    Rel P N c (astart args bx tp nx) { tmps := vs ++ Array.replicate (N - vs.size) undef, defers := [] } w := by
  refine ⟨fun t av ht => ?_, by simp; omega, .nil, (fun l hl => by rw [ho] at hl; cases hl), hlow, hm, hn.symm, hf⟩
  obtain ⟨_, h2⟩ := look_argSlots ht
  rw [Nat.sub_zero] at h2
  obtain ⟨v, hv, hrep⟩ := hr.get h2
  have hlt : t < vs.size := by
    have := (List.getElem?_eq_some_iff.1 hv).1
    simpa using this
  have : (vs ++ Array.replicate (N - vs.size) undef).getD t undef = v := by
    have hv' : vs[t] = v := by
      have := hv
      rw [Array.getElem?_toList, Array.getElem?_eq_getElem hlt] at this
      simpa using this
    simp [Array.getD_eq_getD_getElem?, Array.getElem?_append_left hlt, hlt, hv']
  rw [this]
  exact hrep

/-- What a result variable holds. -/
def resOne (P : Program) (s : State) : ResultVar → Option AV
  | .tmp t => look s.slots t
  | .cell t ty => match look s.slots t, (P.info? ty).map (·.size) with
    | some (.bp id 0), some n => match boxAt s.boxes id with
      | some cells => if cells.length = n then (match P.underlying ty with
        | some (.struct _) | some (.array _ _) => some (.ag cells)
        | some _ => if n = 1 then cells[0]? else none
        | none => none) else none
      | none => none
    | _, _ => none

def resL (P : Program) (s : State) : List ResultVar → Option (List AV)
  | [] => some []
  | x :: xs => match resOne P s x, resL P s xs with
    | some a, some b => some (a :: b)
    | _, _ => none

def resAV (P : Program) (s : State) (rs : List ResultVar) : Option AV :=
  match resL P s rs with
  | some [x] => some x
  | some l => some (.tu l)
  | none => none

theorem runL {α β : Type} (f : α → Sem β) (g : α → β → Prop) : ∀ (l : List α) (w : World), (∀ x ∈ l, ∃ v, (f x).run P w = .ok v w ∧ g x v) → ∃ vs, (l.mapM f).run P w = .ok vs w ∧ vs.length = l.length ∧ ∀ (i : Nat) (x : α), l[i]? = some x → ∃ v, vs[i]? = some v ∧ g x v
  | [], w, _ => ⟨[], by simp, rfl, fun i x h => by simp at h⟩
  | x :: xs, w, h => by
    obtain ⟨v, h1, h2⟩ := h x (by simp)
    obtain ⟨vs, h3, h4, h5⟩ := runL f g xs w fun y hy => h y (List.mem_cons_of_mem _ hy)
    refine ⟨v :: vs, by simp [h1, h3], by simp [h4], fun i y hi => ?_⟩
    cases i with
    | zero => simp at hi; subst hi; exact ⟨v, rfl, h2⟩
    | succ i => simpa using h5 i y (by simpa using hi)

theorem box_load (hm : Mem P c bx tp w) {id : Nat} {cells : List AV} (hb : boxAt bx id = some cells) : ∃ arr t, w.heap[c.β id]? = some (.cells arr t (0, 0)) ∧ RepL P c w cells (arr.toList.take cells.length) := by
  obtain ⟨o, h1, h2⟩ := (hm.boxes _ (boxAt_mem hb)).row
  obtain ⟨arr, t, rfl, h3⟩ := h2.cells (boxAt_ob hb)
  exact ⟨arr, t, h1, h3⟩

theorem loadCells_row {g : Nat} {arr : Array Value} {t : TypeId} {fr : Nat × Nat} (hh : w.heap[g]? = some (.cells arr t fr)) (off n : Nat) (hn : off + n ≤ arr.size) :
    (loadCells ⟨g, off, none⟩ n).run P w = .ok ((arr.toList.drop off).take n).toArray w := by
  have hl : ((arr.toList.drop off).take n).length = n := by simp; omega
  have := run_loadCells_list (P := P) w ⟨g, off, none⟩ ((arr.toList.drop off).take n) (fun j v hj => by
    rw [add_lit, cell_of_row w g (off + j) arr t fr hh]
    rw [List.getElem?_take] at hj
    split at hj
    · simpa [List.getElem?_drop] using hj
    · cases hj)
  rwa [hl] at this

theorem resOne_sound (h : Rel P N c s a w) {x : ResultVar} {av : AV} (hx : resOne P s x = some av) :
    ∃ v, (match x with | .tmp t => pure (a.tmps.getD t undef) | .cell t ty => do loadVar ty (← asAddr (a.tmps.getD t undef)) : Sem Value).run P w = .ok v w ∧ Rep P c w av v := by
  cases x with
  | tmp t => exact ⟨_, rfl, h.slots t av hx⟩
  | cell t ty =>
    simp only [resOne] at hx
    split at hx
    · rename_i id n hl hi
      split at hx
      · rename_i cells hb
        split at hx
        · rename_i hlen
          have hp := h.slots t _ hl
          simp only [Rep] at hp
          obtain ⟨arr, t', hrow, hrep⟩ := box_load h.mem hb
          have hsz : cells.length ≤ arr.size := by have := hrep.length; simp only [List.length_take, Array.length_toList] at this; omega
          cases hq : P.info? ty with
          | none => rw [hq] at hi; simp at hi
          | some info =>
            rw [hq] at hi
            simp only [Option.map_some, Option.some.injEq] at hi
            have hload := loadCells_row (P := P) hrow 0 n (by omega)
            rw [List.drop_zero] at hload
            rw [hlen] at hrep
            generalize hla : (arr.toList.take n) = la at hload hrep
            have agg : ∀ d, P.underlying ty = some d → (d matches .struct _ | .array _ _) = true → (loadVar ty ⟨c.β id, 0, none⟩).run P w = .ok (.agg la.toArray) w := fun d hd hm => by
              cases d <;> simp at hm <;> simp [loadVar, isAgg, run_underlying hd, sizeOf, typeInfo, hq, hi, hload]
            split at hx
            · rename_i fs hd
              simp only [Option.some.injEq] at hx; subst hx
              exact ⟨.agg la.toArray, by simp [hp.2, asAddr, agg _ hd rfl], by simp only [Rep]; exact ⟨la.toArray, rfl, hrep⟩⟩
            · rename_i k e hd
              simp only [Option.some.injEq] at hx; subst hx
              exact ⟨.agg la.toArray, by simp [hp.2, asAddr, agg _ hd rfl], by simp only [Rep]; exact ⟨la.toArray, rfl, hrep⟩⟩
            · rename_i d hd1 hd2 hd
              split at hx
              · obtain ⟨v, hv, hrv⟩ := hrep.get hx
                refine ⟨v, ?_, hrv⟩
                have hcell : w.cell? ⟨c.β id, 0, none⟩ = some v := by
                  rw [cell_of_row w _ 0 arr t' _ hrow]
                  rw [← hla, List.getElem?_take] at hv
                  split at hv
                  · simpa using hv
                  · cases hv
                have hag : (isAgg ty).run P w = .ok false w := by
                  cases d <;> simp [isAgg, run_underlying hd]
                  · exact (hd2 _ _ rfl).elim
                  · exact (hd1 _ rfl).elim
                simp [hp.2, asAddr, loadVar, hag, hcell]
              · cases hx
            · cases hx
        · cases hx
      · cases hx
    · cases hx

theorem resL_sound (h : Rel P N c s a w) : ∀ {l : List ResultVar} {avs : List AV}, resL P s l = some avs →
    ∃ vs, (l.mapM fun x => (match x with | .tmp t => pure (a.tmps.getD t undef) | .cell t ty => do loadVar ty (← asAddr (a.tmps.getD t undef)) : Sem Value)).run P w = .ok vs w ∧ RepL P c w avs vs
  | [], avs, hx => by simp only [resL, Option.some.injEq] at hx; subst hx; exact ⟨[], by simp, by simp [RepL]⟩
  | x :: xs, avs, hx => by
    simp only [resL] at hx
    split at hx
    · rename_i y ys hy hys
      simp only [Option.some.injEq] at hx; subst hx
      obtain ⟨v, h1, h2⟩ := resOne_sound h hy
      obtain ⟨vs, h3, h4⟩ := resL_sound h hys
      refine ⟨v :: vs, ?_, by simp only [RepL]; exact ⟨v, vs, rfl, h2, h4⟩⟩
      rw [List.mapM_cons]
      simp only [Sem.run_bind]
      rw [h1]
      simp only [Result.andThen_ok]
      rw [h3]
      simp
    · cases hx

theorem resAV_sound (h : Rel P N c s a w) {fn : Func} {rs : List ResultVar} (hrs : fn.results.toList = rs) {r : AV} (hx : resAV P s rs = some r) : ∃ v, (results fn a.tmps).run P w = .ok v w ∧ Rep P c w r v := by
  simp only [resAV] at hx
  have key : ∀ {l : List AV}, resL P s rs = some l → ∃ vs : Array Value, (fn.results.mapM fun x => (match x with | .tmp t => pure (a.tmps.getD t undef) | .cell t ty => do loadVar ty (← asAddr (a.tmps.getD t undef)) : Sem Value)).run P w = .ok vs w ∧ RepL P c w l vs.toList := by
    intro l hl
    obtain ⟨vs, h1, h2⟩ := resL_sound h hl
    refine ⟨vs.toArray, ?_, by simpa using h2⟩
    rw [Array.mapM_eq_mapM_toList, hrs]
    simp only [Sem.run_map, h1, Result.andThen_ok]
  split at hx
  · rename_i x hl
    simp only [Option.some.injEq] at hx; subst hx
    obtain ⟨vs, h1, h2⟩ := key hl
    simp only [RepL] at h2
    obtain ⟨v, vs', h3, h4, h5⟩ := h2
    subst h5
    have hvs : vs = #[v] := by apply Array.toList_inj.1; simpa using h3
    subst hvs
    refine ⟨v, ?_, h4⟩
    unfold results
    simp only [Sem.run_bind]
    erw [h1]
    simp
  · rename_i l hl hne
    simp only [Option.some.injEq] at hx; subst hx
    obtain ⟨vs, h1, h2⟩ := key hne
    refine ⟨.tuple vs, ?_, by simp only [Rep]; exact ⟨vs, rfl, h2⟩⟩
    have hsz : vs.size ≠ 1 := fun e => by
      have := h2.length
      rw [Array.length_toList, e] at this
      match l, this with
      | [x], _ => exact hl x rfl
    unfold results
    simp only [Sem.run_bind]
    erw [h1]
    simp [hsz]
  · cases hx

theorem Ext.refloor (n : Nat) (c : Ctx) (w : World) (f : Floor) : Ext n c w { c with floor := f } w := ⟨rfl, rfl, rfl, Nat.le_refl _, fun _ _ => ⟨rfl, rfl⟩, fun _ _ _ hp => ⟨hp, rfl⟩, Stays.refl w, fun _ _ _ _ h => h⟩

/-- What was to be shut is shut. -/
def shutAll (w : World) : List Nat → World
  | [] => w
  | r :: rs => shutAll (w.putObj r (.deferred none)) rs

theorem shut_heap : ∀ (rs : List Nat) (w : World), (shutAll w rs).heap.size = w.heap.size ∧ (∀ b, b ∉ rs → (shutAll w rs).heap[b]? = w.heap[b]?) ∧ (shutAll w rs).os = w.os ∧ (shutAll w rs).tape = w.tape ∧ (shutAll w rs).output = w.output
  | [], w => ⟨rfl, fun _ _ => rfl, rfl, rfl, rfl⟩
  | r :: rs, w => by
    obtain ⟨h1, h2, h3, h4, h5⟩ := shut_heap rs (w.putObj r (.deferred none))
    refine ⟨h1.trans (by simp [World.putObj]), fun b hb => ?_, h3, h4, h5⟩
    simp only [List.mem_cons, not_or] at hb
    exact (h2 b hb.2).trans (World.putObj_heap_other hb.1)

theorem shut_leaves {G : Fence} {k : Nat} {fn : Func} {tmps : Array Value} {R : Ending → World → Prop} : ∀ (rs : List Nat) (w : World), rs.Nodup → (∀ r ∈ rs, w.heap[r]? = some (.deferred (some []))) →
    (∃ v, (results fn tmps).run P (shutAll w rs) = .ok v (shutAll w rs) ∧ R (.returned v) (shutAll w rs)) → LeavesInM G k P fn tmps R (rs.map markOf) .returning w
  | [], w, _, _, h => h
  | r :: rs, w, hn, hd, h => by
    rw [List.nodup_cons] at hn
    refine ⟨by simp, .inl ⟨r, w.putObj r (.deferred none), rfl, run_takeDeferred (hd r (by simp)), shut_leaves rs _ hn.2 (fun r' hr' => ?_) h⟩⟩
    exact (World.putObj_heap_other (fun e => hn.1 (by rw [← e]; exact hr'))).trans (hd r' (List.mem_cons_of_mem _ hr'))

theorem not_deferred {y : AV} {d : Option (List Deferred)} (hr : ORep P c w y (.deferred d)) : False := by
  match y, hr with
  | .ob (.loop i) l, hr => obtain ⟨_, _, _, _, _, hr, _⟩ := hr; cases hr
  | .ob (.map _ _ _) l, hr => obtain ⟨_, hr, _⟩ := hr; cases hr
  | .ob (.iter _ _) l, hr => cases hr

theorem Rel.shut (h : Rel P N c s a w) {rs : List Nat} (hd : ∀ r ∈ rs, c.base ≤ r ∧ c.floor.low ≤ r ∧ w.heap[r]? = some (.deferred (some []))) :
    Rel P N c s { a with defers := [] } (shutAll w rs) ∧ ∀ c0 w0, Ext 0 c0 w0 c w → w0.heap.size ≤ c.floor.low → ∀ n, Ext n c0 w0 c w → Ext n c0 w0 c (shutAll w rs) := by
  obtain ⟨h1, h2, h3, h4, h5⟩ := shut_heap rs w
  have hcell : ∀ b j v, w.cell? ⟨b, j, none⟩ = some v → (shutAll w rs).cell? ⟨b, j, none⟩ = w.cell? ⟨b, j, none⟩ := fun b j v hv => by
    refine World.cell?_of_block (a := ⟨b, j, none⟩) (h2 b fun hb => ?_)
    have := (hd b hb).2.2
    simp [World.cell?, this] at hv
  have hm : Moves c w c (shutAll w rs) := ⟨fun b off cells hr j v hj => ⟨(hr j v hj).1, (hcell _ _ _ (hr j v hj).2).trans (hr j v hj).2⟩, fun _ _ => ⟨rfl, rfl⟩, Nat.le_refl _, fun b arr t f hb => ⟨arr, f, (h2 b fun hm => by rw [(hd b hm).2.2] at hb; cases hb).trans hb, rfl⟩, fun b es n hp hb => ⟨hp, (h2 b fun hm => by rw [(hd b hm).2.2] at hb; cases hb).trans hb⟩⟩
  have hbox : ∀ x ∈ s.boxes, (shutAll w rs).heap[c.β x.1]? = w.heap[c.β x.1]? := fun x hx => by
    obtain ⟨o, ho, hr⟩ := (h.mem.boxes x hx).row
    refine h2 _ fun hb => ?_
    rw [(hd _ hb).2.2, Option.some.injEq] at ho
    subst ho
    rcases hr with ⟨_, _, hr, _⟩ | ⟨y, _, hr⟩
    · cases hr
    · exact not_deferred hr
  refine ⟨⟨fun t av ht => Rep.move hm _ _ (h.slots t av ht), h.size, .nil, fun l hl => ?_, by rw [h1]; exact h.low, ⟨fun x hx => ?_, h.mem.apart, fun x hx => ?_, h.mem.tapart, h.mem.tids, h.mem.cross, ?_, by rw [h1]; exact h.mem.baseLe, by rw [h1]; exact h.mem.plt, h.mem.pold⟩, h.next, h.floor⟩, fun c0 w0 _ hlow n hx => ?_⟩
  · obtain ⟨r, hr⟩ := h.round l hl
    refine ⟨r, (h2 l fun hb => ?_).trans hr⟩
    rw [(hd l hb).2.2] at hr; cases hr
  · obtain ⟨o, ho, hr⟩ := (h.mem.boxes x hx).row
    exact ⟨(h.mem.boxes x hx).lt, (h.mem.boxes x hx).base, (h.mem.boxes x hx).free, o, (hbox x hx).trans ho, hr.move hm⟩
  · have ht := h.mem.tips x hx
    refine ⟨ht.lt, ?_⟩
    rcases ht.row with g1 | ⟨g, n, cap, cur, g1, g2, g3, g4, g5, g6, g7⟩
    · exact .inl g1
    · exact .inr ⟨g, n, cap, cur, g1, g2, (h2 g fun hb => by rw [(hd g hb).2.2] at g3; cases g3).trans g3, g4, g5, g6, g7⟩
  · have hb := h.mem.below
    exact ⟨h3.trans hb.os, h4.trans hb.tape, h5.trans hb.output, by rw [h1]; exact hb.size, fun k hk => (h2 k fun hr => by have := (hd k hr).1; omega).trans (hb.block k hk)⟩
  · have hout : ∀ b, b < w0.heap.size → (shutAll w rs).heap[b]? = w.heap[b]? := fun b hb => h2 b fun hr => by have := (hd b hr).2.1; omega
    refine ⟨hx.base, hx.w0, hx.p0, by rw [h1]; exact hx.size, hx.ids, fun b j hb hp => ⟨(hx.keep b j hb hp).1, ?_⟩, fun b hb => ?_, fun b es n hp hb => (hout b (heap_lt hb)).trans (hx.maps b es n hp hb)⟩
    · exact (World.cell?_of_block (a := ⟨b, j, none⟩) (hout b hb)).trans (hx.keep b j hb hp).2
    · rw [hout b hb]; exact hx.stays b hb

theorem Mem.refloor (hm : Mem P c bx tp w) (f : Floor) : Mem P { c with floor := f } bx tp w :=
  ⟨fun x hx => (hm.boxes x hx).ext (Ext.refloor _ c w f) (Nat.le_refl _) rfl fun _ hj => hj, hm.apart, fun x hx => (hm.tips x hx).ext (Ext.refloor _ c w f) (Nat.le_refl _) (fun _ _ => rfl) fun _ _ _ hj => hj,
    hm.tapart, hm.tids, hm.cross, hm.below, hm.baseLe, hm.plt, hm.pold⟩

/-- A callee walked in place. -/
theorem callOK_inline {g : FuncId} {fn : Func} {C : Code} {args : List AV} {nx : Nat} {K : AV → List (Nat × List AV) → List (Nat × TypeId) → Nat → Prop} (hf : P.funcs[g]? = some fn) (hb : fn.body = some C) (he : Enters P g) (hN : args.length ≤ fn.ntmps) {rs : List ResultVar}
    (hrs : fn.results.toList = rs)
    (h : AWP P fn.ntmps nx C (fun e s' => (e = .normal ∨ e = .ret) ∧ ∃ r, resAV P s' rs = some r ∧ K r s'.boxes s'.tips s'.next) (astart args bx tp nx)) : CallOK P g args bx tp nx K := by
  refine ⟨he, fun c w vs hm hn hr => ?_⟩
  have hlen : vs.size ≤ fn.ntmps := by have := hr.length; rw [Array.length_toList] at this; omega
  have hrel := rel_start (N := fn.ntmps) (c := { c with floor := ⟨c.next, w.heap.size, none⟩ }) (args := args) (vs := vs) (nx := nx) (hm.refloor _) hn (Nat.le_refl _) rfl (Nat.le_refl _)
    (RepL.ext (Ext.refloor _ c w ⟨c.next, w.heap.size, none⟩) (Nat.le_refl _) _ _ hr) hlen
  refine (callsIn_wide (n := 0)).1 (callsIn_of_wp_marks hf hb trivial (wpIn_mono (h _ _ _ (Nat.le_of_eq hn) hrel) ?_) rfl)
  rintro e a' w' ⟨c', s', hx, hfl, hrel', hee, r, hres, hK⟩
  obtain ⟨rs', hds, hnd, hall⟩ := hrel'.marks
  obtain ⟨hrel2, hext⟩ := hrel'.shut hall
  obtain ⟨v, hv, hrep⟩ := resAV_sound hrel2 hrs hres
  have hx2 : Ext c.next c w c' (shutAll w' rs') := by
    have h0 : Ext c.next c w c' w' := ⟨hx.base, hx.w0, hx.p0, hx.size, hx.ids, hx.keep, hx.stays, hx.maps⟩
    exact hext c w (h0.mono (Nat.zero_le _)) (by rw [hfl]; exact Nat.le_refl _) _ h0
  have fin : LeavesInM (fen none) 0 P fn a'.tmps (fun e w' => ∃ v c' r bx' tp', e = .returned v ∧ Ext c.next c w c' w' ∧ c.next ≤ c'.next ∧ c'.floor = c.floor ∧ Mem P c' bx' tp' w' ∧ Rep P c' w' r v ∧ K r bx' tp' c'.next) a'.defers .returning w' := by
    rw [hds]
    refine shut_leaves rs' w' hnd (fun r hr => (hall r hr).2.2) ⟨v, hv, v, { c' with floor := c.floor }, r, s'.boxes, s'.tips, rfl, ⟨hx2.base, hx2.w0, hx2.p0, hx2.size, hx2.ids, hx2.keep, hx2.stays, hx2.maps⟩, ?_, rfl, ?_, ?_, ?_⟩
    · have := hrel'.floor; rw [hfl] at this; exact this
    · exact hrel2.mem.refloor c.floor
    · exact Rep.ext (Ext.refloor _ c' _ c.floor) (Nat.le_refl _) _ _ hrep
    · show K r s'.boxes s'.tips c'.next
      rw [← hrel'.next]; exact hK
  rcases hee with rfl | rfl
  · exact fin
  · exact fin

mutual
def AV.ren (f : Nat → Nat) : AV → AV
  | .lit v => .lit v
  | .sl e els tip => .sl e els (match tip with | none => none | some i => some (f i))
  | .ep cells => .ep (AV.renL f cells)
  | .bp id off => .bp (f id) off
  | .fn g first cap => .fn g (AV.renL f first) (AV.renL f cap)
  | .ag l => .ag (AV.renL f l)
  | .tu l => .tu (AV.renL f l)
  | .sn e l => .sn e (AV.renL f l)
  | .ob k l => .ob k (AV.renL f l)
  | .rf k id => .rf k (f id)
  | .vx k l => .vx k (AV.renL f l)
def AV.renL (f : Nat → Nat) : List AV → List AV
  | [] => []
  | x :: xs => x.ren f :: AV.renL f xs
end

mutual
/-- The numbers of boxes and rows that it names are below n. -/
def AV.under (n : Nat) : AV → Bool
  | .lit _ => true
  | .sl _ _ tip => match tip with | none => true | some i => decide (i < n)
  | .ep cells => AV.underL n cells
  | .bp id _ => decide (id < n)
  | .fn _ first cap => AV.underL n first && AV.underL n cap
  | .ag l => AV.underL n l
  | .tu l => AV.underL n l
  | .sn _ l => AV.underL n l
  | .ob _ l => AV.underL n l
  | .rf _ id => decide (id < n)
  | .vx _ l => AV.underL n l
def AV.underL (n : Nat) : List AV → Bool
  | [] => true
  | x :: xs => x.under n && AV.underL n xs
end

theorem renL_length (f : Nat → Nat) : ∀ (l : List AV), (AV.renL f l).length = l.length
  | [] => rfl
  | x :: xs => by simp [AV.renL, renL_length f xs]

mutual
theorem Rep.ren {f : Nat → Nat} (hβ : ∀ i, i < c'.next → c'.β i = c.β (f i)) (hτ : ∀ i, i < c'.next → c'.τ i = c.τ (f i)) (hp : c'.prot = c.prot) : ∀ (av : AV) (v : Value), Rep P c w (av.ren f) v → av.under c'.next = true → Rep P c' w av v
  | .lit x, v, h, _ => by simpa [Rep, AV.ren] using h
  | .sl e els tip, v, h, hb => by
    simp only [Rep, AV.ren] at h ⊢
    obtain ⟨⟨a, cap, h1, h2, h3, h4⟩, h5⟩ := h
    refine ⟨⟨a, cap, h1, h2, h3, h4.imp id fun ⟨b, off, h6, h7⟩ => ⟨b, off, h6, fun j v hj => by rw [hp]; exact h7 j v hj⟩⟩, fun id hid => ?_⟩
    cases tip with
    | none => cases hid
    | some i =>
      simp only [Option.some.injEq] at hid; subst hid
      have hlt : i < c'.next := by simpa [AV.under] using hb
      exact ⟨hlt, by rw [hτ i hlt]; exact (h5 _ rfl).2⟩
  | .ep cells, v, h, hb => by
    simp only [Rep, AV.ren] at h ⊢
    obtain ⟨b, off, vs, h1, h2, h3⟩ := h
    exact ⟨b, off, vs, h1, (fun j v hj => by rw [hp]; exact h2 j v hj), RepL.ren hβ hτ hp _ _ h3 (by simpa [AV.under] using hb)⟩
  | .bp id off, v, h, hb => by
    simp only [Rep, AV.ren] at h ⊢
    have hlt : id < c'.next := by simpa [AV.under] using hb
    exact ⟨hlt, by rw [hβ id hlt]; exact h.2⟩
  | .fn g first cap, v, h, hb => by
    simp only [Rep, AV.ren] at h ⊢
    simp only [AV.under, Bool.and_eq_true] at hb
    obtain ⟨a1, a2, h1, h2, h3⟩ := h
    exact ⟨a1, a2, h1, RepL.ren hβ hτ hp _ _ h2 hb.1, RepL.ren hβ hτ hp _ _ h3 hb.2⟩
  | .ag l, v, h, hb => by
    simp only [Rep, AV.ren] at h ⊢
    obtain ⟨a1, h1, h2⟩ := h
    exact ⟨a1, h1, RepL.ren hβ hτ hp _ _ h2 (by simpa [AV.under] using hb)⟩
  | .tu l, v, h, hb => by
    simp only [Rep, AV.ren] at h ⊢
    obtain ⟨a1, h1, h2⟩ := h
    exact ⟨a1, h1, RepL.ren hβ hτ hp _ _ h2 (by simpa [AV.under] using hb)⟩
  | .sn e l, v, h, hb => by
    simp only [Rep, AV.ren] at h ⊢
    obtain ⟨a, cap, vs, h1, h2, h3, h4, h5⟩ := h
    refine ⟨a, cap, vs, by rw [renL_length] at h1; exact h1, by rw [renL_length] at h2; exact h2, h3, RepL.ren hβ hτ hp _ _ h4 (by simpa [AV.under] using hb), ?_⟩
    rcases h5 with h5 | ⟨b, off, h6, h7⟩
    · left; have := congrArg List.length h5; rw [renL_length] at this; exact List.eq_nil_of_length_eq_zero this
    · exact .inr ⟨b, off, h6, fun j v hj => by rw [hp]; exact h7 j v hj⟩
  | .ob _ _, v, h, _ => by simp only [Rep, AV.ren] at h
  | .rf k id, v, h, hb => by
    simp only [Rep, AV.ren] at h ⊢
    have hlt : id < c'.next := by simpa [AV.under] using hb
    exact ⟨hlt, by rw [hβ id hlt]; exact h.2⟩
  | .vx k l, v, h, hb => by
    simp only [Rep, AV.ren] at h ⊢
    obtain ⟨vs, h1, h2⟩ := h
    exact ⟨vs, h1.move fun _ _ _ hq hb => ⟨by rw [hp]; exact hq, hb⟩, RepL.ren hβ hτ hp _ _ h2 (by simpa [AV.under] using hb)⟩
theorem RepL.ren {f : Nat → Nat} (hβ : ∀ i, i < c'.next → c'.β i = c.β (f i)) (hτ : ∀ i, i < c'.next → c'.τ i = c.τ (f i)) (hp : c'.prot = c.prot) : ∀ (l : List AV) (vs : List Value), RepL P c w (AV.renL f l) vs → AV.underL c'.next l = true → RepL P c' w l vs
  | [], vs, h, _ => by simpa [RepL, AV.renL] using h
  | x :: xs, vs, h, hb => by
    simp only [RepL, AV.renL] at h ⊢
    simp only [AV.underL, Bool.and_eq_true] at hb
    obtain ⟨v, vs', h1, h2, h3⟩ := h
    exact ⟨v, vs', h1, Rep.ren hβ hτ hp _ _ h2 hb.1, RepL.ren hβ hτ hp _ _ h3 hb.2⟩
end

theorem hasTip_iff_mem {l : List (Nat × TypeId)} {id : Nat} {e : TypeId} (h : (id, e) ∈ l) : (id, e) ∈ l := h

/-- The tips of a list of numbers, and their types. -/
def tipsOf : List Nat → List TypeId → List (Nat × TypeId)
  | i :: ids, e :: tys => (i, e) :: tipsOf ids tys
  | _, _ => []

theorem idx_get : ∀ (tys : List TypeId) (n : Nat) (x : Nat × TypeId), x ∈ idx n tys → ∃ i, x.1 = n + i ∧ tys[i]? = some x.2
  | e :: l, n, x, h => by
    simp only [idx] at h
    rcases List.mem_cons.1 h with rfl | h
    · exact ⟨0, by simp, by simp⟩
    · obtain ⟨i, h1, h2⟩ := idx_get l (n + 1) x h
      exact ⟨i + 1, by omega, by simpa using h2⟩

theorem idx_nodup : ∀ (tys : List TypeId) (n : Nat), (idx n tys).Pairwise (fun x y => x.1 ≠ y.1)
  | [], _ => List.Pairwise.nil
  | e :: l, n => by
    simp only [idx]
    exact List.pairwise_cons.2 ⟨fun y hy => by have := (idx_mem hy).1; simp only; omega, idx_nodup l (n + 1)⟩

theorem Mem.ren (hm : Mem P c bx tp w) {ids : List Nat} {tys : List TypeId} (hids : ids.Nodup) (hlen : ids.length = tys.length) (ht : ∀ (i k : Nat) (e : TypeId), ids[i]? = some k → tys[i]? = some e → (k, e) ∈ tp) :
    Mem P { c with next := tys.length, τ := fun i => c.τ (ids.getD i 0), β := fun i => c.β (ids.getD i 0) } [] (idx 0 tys) w := by
  have key : ∀ x ∈ idx 0 tys, ∃ k, ids[x.1]? = some k ∧ (k, x.2) ∈ tp ∧ ids.getD x.1 0 = k := fun x hx => by
    obtain ⟨i, h1, h2⟩ := idx_get tys 0 x hx
    rw [Nat.zero_add] at h1
    have hi : i < tys.length := (List.getElem?_eq_some_iff.1 h2).1
    have hk : ids[i]? = some ids[i] := List.getElem?_eq_getElem (by omega)
    rw [h1]
    exact ⟨ids[i], hk, ht i _ _ hk h2, by simp [List.getD, hk]⟩
  have dis : ∀ x y : Nat × TypeId, x ∈ tp → y ∈ tp → x.1 ≠ y.1 → ∀ k, (c.τ x.1).ownBlock = some k → (c.τ y.1).ownBlock ≠ some k := by
    have hap := hm.tapart
    clear key hm ht
    induction tp with
    | nil => intro x y hx; cases hx
    | cons z l ih =>
      rw [List.pairwise_cons] at hap
      intro x y hx hy hne k hk
      rcases List.mem_cons.1 hx with hx1 | hx1
      · rcases List.mem_cons.1 hy with hy1 | hy1
        · exact absurd (by rw [hx1, hy1]) hne
        · exact hap.1 y hy1 k (by rw [← hx1]; exact hk)
      · rcases List.mem_cons.1 hy with hy1 | hy1
        · intro he
          exact hap.1 x hx1 k (by rw [← hy1]; exact he) hk
        · exact ih hap.2 x y hx1 hy1 hne k hk
  refine ⟨by simp, by simp, fun x hx => ?_, ?_, idx_nodup _ _, by simp, hm.below, hm.baseLe, hm.plt, hm.pold⟩
  · obtain ⟨k, _, h2, h3⟩ := key x hx
    refine ⟨by have := (idx_mem hx).2; simp only; omega, ?_⟩
    have := (hm.tips _ h2).row
    simp only at this ⊢
    rw [h3]
    exact this
  · refine (idx_nodup tys 0).imp_of_mem fun {x y} hx hy hne k hk => ?_
    obtain ⟨k1, h1, h2, h3⟩ := key x hx
    obtain ⟨k2, g1, g2, g3⟩ := key y hy
    simp only at hk ⊢
    rw [h3] at hk
    rw [g3]
    refine dis _ _ h2 g2 (fun e => hne ?_) k hk
    simp only at e
    subst e
    exact (List.getElem?_inj (List.getElem?_eq_some_iff.1 h1).1 hids).1 (h1.trans g1.symm)

/-- A function that only computes, by its walk. -/
theorem pure_of_awp {g : FuncId} {fn : Func} {C : Code} {args : List AV} {tys : List TypeId} {r : AV} (hf : P.funcs[g]? = some fn) (hb : fn.body = some C) (he : Enters P g) (hN : args.length ≤ fn.ntmps) {rs : List ResultVar}
    (hrs : fn.results.toList = rs) (hr0 : r.under tys.length = true)
    (h : AWP P fn.ntmps 0 C (fun e s' => (e = .normal ∨ e = .ret) ∧ ∃ ids : List Nat, ids.length = tys.length ∧ ids.Nodup ∧ resAV P s' rs = some (r.ren (fun i => ids.getD i 0)) ∧
      ∀ (i k : Nat) (e : TypeId), ids[i]? = some k → tys[i]? = some e → (k, e) ∈ s'.tips) (astart args [] [] 0)) : Pure P g args tys r := by
  refine ⟨he, fun w p vs hp hr => ?_⟩
  have hm : Mem P (topC w p) [] [] w := ⟨by simp, by simp, by simp, by simp, by simp, by simp, Below.refl _ _, Nat.le_refl _, hp, fun _ _ h _ => h⟩
  have hlen : vs.size ≤ fn.ntmps := by have := hr.length; rw [Array.length_toList] at this; omega
  have hrel := rel_start (N := fn.ntmps) hm rfl (Nat.le_refl _) rfl (Nat.le_refl _) hr hlen
  refine (callsIn_wide (n := 0)).1 (callsIn_of_wp_marks hf hb trivial (wpIn_mono (h _ _ _ (Nat.le_refl _) hrel) ?_) rfl)
  rintro e a' w' ⟨c', s', hx, hfl, hrel', hee, ids, hil, hnd, hres, htip⟩
  obtain ⟨rs', hds, hnd', hall⟩ := hrel'.marks
  obtain ⟨hrel2, hext⟩ := hrel'.shut hall
  obtain ⟨v, hv, hrep⟩ := resAV_sound hrel2 hrs hres
  have hx2 : Ext 0 (topC w p) w c' (shutAll w' rs') := hext _ _ hx (by rw [hfl]; exact Nat.le_refl _) _ hx
  have fin : LeavesInM (fen none) 0 P fn a'.tmps (fun e w' => ∃ v c', e = .returned v ∧ Ext 0 (topC w p) w c' w' ∧ c'.next = tys.length ∧ Mem P c' [] (idx 0 tys) w' ∧ Rep P c' w' r v) a'.defers .returning w' := by
    rw [hds]
    refine shut_leaves rs' w' hnd' (fun r hr => (hall r hr).2.2) ⟨v, hv, v, { c' with next := tys.length, τ := fun i => c'.τ (ids.getD i 0), β := fun i => c'.β (ids.getD i 0) }, rfl, ⟨hx2.base, hx2.w0, hx2.p0, hx2.size, fun _ h => by omega, hx2.keep, hx2.stays, hx2.maps⟩, rfl, hrel2.mem.ren hnd hil htip, ?_⟩
    exact Rep.ren (c := c') (c' := { c' with next := tys.length, τ := fun i => c'.τ (ids.getD i 0), β := fun i => c'.β (ids.getD i 0) }) (f := fun i => ids.getD i 0) (fun _ _ => rfl) (fun _ _ => rfl) rfl _ _ hrep hr0
  rcases hee with rfl | rfl
  · exact fin
  · exact fin
end
end Go.Ab
