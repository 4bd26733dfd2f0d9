/-
What stores, new rows and appends do to the memory of the abstract machine. Conditions: none.
-/
import Derived.Test.YteekelelcbfekaaDoorAbState
import Derived.Laws.AppendOwnNone
set_option linter.unusedSimpArgs false
set_option linter.unusedVariables false
set_option linter.unusedSectionVars false
namespace Go.Ab
open Go Go.RowKit

section
variable {P : Program} {N : Nat} {c c' : Ctx} {w w' : World} {s : State} {a : Act} {bx : List (Nat × List AV)} {tp : List (Nat × TypeId)}

theorem Mem.β_ne (h : Mem P c bx tp w) {x y : Nat × List AV} (hx : x ∈ bx) (hy : y ∈ bx) (hne : x.1 ≠ y.1) : c.β x.1 ≠ c.β y.1 := by
  have := h.apart
  clear h
  induction bx with
  | nil => cases hx
  | cons z l ih =>
    rw [List.pairwise_cons] at this
    rcases List.mem_cons.1 hx with hx1 | hx1
    · rcases List.mem_cons.1 hy with hy1 | hy1
      · exact absurd (by rw [hx1, hy1]) hne
      · rw [hx1]; exact this.1 y hy1
    · rcases List.mem_cons.1 hy with hy1 | hy1
      · rw [hy1]; exact fun e => this.1 x hx1 e.symm
      · exact ih hx1 hy1 this.2

theorem setBox_other : ∀ {l : List (Nat × List AV)} {id : Nat} {cells : List AV} {x : Nat × List AV}, x ∈ setBox l id cells → x = (id, cells) ∨ (x ∈ l ∧ (x.1 ≠ id ∨ ∃ y ∈ l, l.Pairwise (fun x y => x.1 ≠ y.1) → False))
  | (i, v) :: l, id, cells, x, h => by
    simp only [setBox] at h
    split at h
    · rename_i he; subst he
      rcases List.mem_cons.1 h with rfl | h
      · exact .inl rfl
      · by_cases hx : x.1 = i
        · refine .inr ⟨List.mem_cons_of_mem _ h, .inr ⟨x, List.mem_cons_of_mem _ h, fun hp => ?_⟩⟩
          rw [List.pairwise_cons] at hp
          exact hp.1 x h hx.symm
        · exact .inr ⟨List.mem_cons_of_mem _ h, .inl hx⟩
    · rename_i he
      rcases List.mem_cons.1 h with rfl | h
      · exact .inr ⟨List.mem_cons_self, .inl he⟩
      · rcases setBox_other h with h1 | ⟨h1, h2 | ⟨y, hy, h2⟩⟩
        · exact .inl h1
        · exact .inr ⟨List.mem_cons_of_mem _ h1, .inl h2⟩
        · exact .inr ⟨List.mem_cons_of_mem _ h1, .inr ⟨y, List.mem_cons_of_mem _ hy, fun hp => h2 (List.pairwise_cons.1 hp).2⟩⟩

theorem Mem.ids_apart (h : Mem P c bx tp w) : bx.Pairwise (fun x y => x.1 ≠ y.1) := h.apart.imp fun hne e => hne (by rw [e])

theorem Ext.setRow (n : Nat) (c : Ctx) (w : World) (g : Nat) (cs : Array Value) {arr : Array Value} {t : TypeId} {fr : Nat × Nat} (hg : w.heap[g]? = some (.cells arr t fr)) (hcs : cs.size = arr.size) (h : ∀ j, ¬ c.prot g j) : Ext n c w c (w.setRow g cs) :=
  ⟨rfl, rfl, rfl, by simp, fun _ _ => ⟨rfl, rfl⟩, fun b j _ hp => ⟨hp, World.cell?_of_block (a := ⟨b, j, none⟩) (setRow_other w g b cs (fun e => h j (e ▸ hp)))⟩, Stays.of_one hg (setRow_heap w g _ _ _ _ hg) hcs fun b _ hb => setRow_other w g b cs hb, fun b es n _ hb => (setRow_other w g b cs fun e => by rw [e, hg] at hb; cases hb).trans hb⟩

theorem pairwise_setBox {R : Nat → Nat → Prop} : ∀ {l : List (Nat × List AV)} {id : Nat} {cells : List AV}, l.Pairwise (fun x y => R x.1 y.1) → (setBox l id cells).Pairwise (fun x y => R x.1 y.1) := by
  intro l id cells h
  rw [← List.pairwise_map (f := Prod.fst) (R := R)] at h ⊢
  rw [setBox_fst]
  exact h

theorem Below.setRow {B : Nat} {a w : World} (h : Below B a w) {g : Nat} (hg : B ≤ g) (cs : Array Value) : Below B a (w.setRow g cs) :=
  ⟨h.os, h.tape, h.output, by simpa using h.size, fun k hk => (setRow_other w g k cs (by omega)).trans (h.block k hk)⟩

/-- A box gets other cells. -/
theorem Mem.setRow (h : Mem P c bx tp w) {id : Nat} {cells cells' : List AV} {arr arr' : Array Value} {t : TypeId} (hb : (id, cells) ∈ bx) (hh : w.heap[c.β id]? = some (.cells arr t (0, 0)))
    (hs : arr'.size = arr.size) (hr : RepL P c w cells' (arr'.toList.take cells'.length)) : Mem P c (setBox bx id cells') tp (w.setRow (c.β id) arr') := by
  have hx : Ext c.next c w c (w.setRow (c.β id) arr') := Ext.setRow _ c w _ _ hh hs (h.boxes _ hb).free
  refine ⟨?_, pairwise_setBox (R := fun i j => c.β i ≠ c.β j) h.apart, ?_, h.tapart, h.tids, ?_, Below.setRow h.below (h.boxes _ hb).base _, by simpa using h.baseLe, by simpa using h.plt, h.pold⟩
  · intro x hm
    rcases setBox_other hm with rfl | ⟨h1, h2 | ⟨y, hy, h2⟩⟩
    · exact ⟨(h.boxes _ hb).lt, (h.boxes _ hb).base, (h.boxes _ hb).free, _, setRow_heap w _ _ _ _ _ hh, .inl ⟨arr', t, rfl, RepL.ext hx (Nat.le_refl _) _ _ hr⟩⟩
    · exact (h.boxes x h1).ext hx (Nat.le_refl _) (setRow_other w _ _ _ (h.β_ne h1 hb h2)) fun j hj => hj
    · exact (h2 h.ids_apart).elim
  · intro x hm
    exact (h.tips x hm).ext hx (Nat.le_refl _) (fun g hg => setRow_other w _ _ _ (fun e => h.cross x hm _ hb (by rw [hg, e]))) fun g j _ hj => hj
  · intro x hm y hy
    rcases setBox_other hy with rfl | ⟨h1, _⟩
    · exact h.cross x hm (id, cells) hb
    · exact h.cross x hm y h1

theorem Mem.drew (h : Mem P c bx tp w) : Mem P c bx tp w.drew :=
  have hx : Ext c.next c w c w.drew := ⟨rfl, rfl, rfl, Nat.le_refl _, fun _ _ => ⟨rfl, rfl⟩, fun _ _ _ hp => ⟨hp, rfl⟩, Stays.of_eq fun _ _ => rfl, fun _ _ _ _ h => h⟩
  ⟨fun x hm => (h.boxes x hm).ext hx (Nat.le_refl _) rfl fun _ hj => hj, h.apart, fun x hm => (h.tips x hm).ext hx (Nat.le_refl _) (fun _ _ => rfl) fun _ _ _ hj => hj, h.tapart, h.tids, h.cross, h.below.drew, h.baseLe, h.plt, h.pold⟩

theorem Ext.drew (n : Nat) (c : Ctx) (w : World) : Ext n c w c w.drew := ⟨rfl, rfl, rfl, Nat.le_refl _, fun _ _ => ⟨rfl, rfl⟩, fun _ _ _ hp => ⟨hp, rfl⟩, Stays.of_eq fun _ _ => rfl, fun _ _ _ _ h => h⟩

/-- The context behind a new row at the heap's end, whose first k cells are kept. -/
def Ctx.newRow (c : Ctx) (g : Nat) (v : Value) (k : Nat) : Ctx := c.newTip v (fun b j => c.prot b j ∨ (b = g ∧ j < k))

theorem Ext.newRow (c : Ctx) (w : World) (o : Obj) (v : Value) (g k : Nat) : Ext c.next c w (c.newRow g v k) (w.alloc o) :=
  ⟨rfl, rfl, rfl, by simp, fun id hid => ⟨rfl, by simp [Ctx.newRow, Ctx.newTip]; omega⟩, fun b j hb hp => ⟨.inl hp, World.cell?_alloc_lt w _ ⟨b, j, none⟩ hb⟩, Stays.of_eq fun b hb => heap_alloc_lt w o hb, fun b es n _ hb => (heap_alloc_lt w o (heap_lt hb)).trans hb⟩

theorem Mem.newRow (h : Mem P c bx tp w) {e : TypeId} {n cap : Nat} {cur : Array Value} (hn : n ≤ cap) (hc : cap ≤ maxLen) (hs : cur.size = cap * P.cellsOf e) :
    Mem P (c.newRow w.heap.size (.slice (some ⟨w.heap.size, 0, none⟩) n cap) (n * P.cellsOf e)) bx ((c.next, e) :: tp) (w.alloc (.cells cur e (0, 0))) := by
  have hx := Ext.newRow c w (.cells cur e (0, 0)) (.slice (some ⟨w.heap.size, 0, none⟩) n cap) w.heap.size (n * P.cellsOf e)
  have hτ : ∀ id, id < c.next → (c.newRow w.heap.size (.slice (some ⟨w.heap.size, 0, none⟩) n cap) (n * P.cellsOf e)).τ id = c.τ id := fun id hid => (hx.ids id hid).2
  have hτn : (c.newRow w.heap.size (.slice (some ⟨w.heap.size, 0, none⟩) n cap) (n * P.cellsOf e)).τ c.next = .slice (some ⟨w.heap.size, 0, none⟩) n cap := by simp [Ctx.newRow, Ctx.newTip]
  have old : ∀ x ∈ tp, TipOK P (c.newRow w.heap.size (.slice (some ⟨w.heap.size, 0, none⟩) n cap) (n * P.cellsOf e)) (w.alloc (.cells cur e (0, 0))) x.2 x.1 := fun x hm =>
    (h.tips x hm).ext hx (Nat.le_succ _) (fun g hg => heap_alloc_lt w _ ((h.tips x hm).block_lt hg).1) fun g j hg hj => hj.elim id fun hj => by
      have := ((h.tips x hm).block_lt hg).1
      omega
  refine ⟨?_, h.apart, ?_, ?_, ?_, ?_, h.below.alloc h.baseLe _, ?_, ?_, fun b j hj hb => hj.elim (fun hj => h.pold b j hj hb) fun hj => absurd hb (by have := h.baseLe; show ¬ b < c.base; omega)⟩
  · exact fun x hm => (h.boxes x hm).ext hx (Nat.le_succ _) (heap_alloc_lt w _ (h.boxes x hm).block_lt) fun j hj => hj.elim id fun hj => by
      have := (h.boxes x hm).block_lt
      omega
  · intro x hm
    rcases List.mem_cons.1 hm with rfl | hm
    · refine ⟨Nat.lt_succ_self _, .inr ⟨w.heap.size, n, cap, cur, hτn, h.baseLe, heap_alloc_new w _, hn, hc, hs, fun j hj => ?_⟩⟩
      rcases hj with hj | hj
      · exact absurd (h.plt _ _ hj) (Nat.lt_irrefl _)
      · exact hj.2
    · exact old x hm
  · refine List.pairwise_cons.2 ⟨fun y hy k hk => ?_, h.tapart.imp_of_mem fun {x y} hx' hy' hne => ?_⟩
    · rw [hτn] at hk
      simp [Value.ownBlock] at hk
      subst hk
      rw [hτ _ (h.tips y hy).lt]
      intro he
      have := ((h.tips y hy).block_lt he).1
      omega
    · rw [hτ _ (h.tips x hx').lt, hτ _ (h.tips y hy').lt]; exact hne
  · exact List.pairwise_cons.2 ⟨fun y hy => Nat.ne_of_gt (h.tips y hy).lt, h.tids⟩
  · intro x hm y hy
    rcases List.mem_cons.1 hm with rfl | hm
    · show (Ctx.τ _ c.next).ownBlock ≠ some (c.β y.1)
      rw [hτn]
      have := (h.boxes y hy).block_lt
      simp [Value.ownBlock]
      omega
    · rw [hτ _ (h.tips x hm).lt]
      exact h.cross x hm y hy
  · have := h.baseLe
    show c.base ≤ _
    simp; omega
  · intro b j hj
    rcases hj with hj | hj
    · have := h.plt b j hj; simp; omega
    · rw [hj.1]; simp

theorem delBox_sub : ∀ (l : List (Nat × List AV)) (id : Nat), (delBox l id).Sublist l
  | [], _ => List.Sublist.refl _
  | (i, v) :: l, id => by
    simp only [delBox]
    split
    · exact List.sublist_cons_self _ _
    · exact (delBox_sub l id).cons_cons _

theorem delBox_ne : ∀ {l : List (Nat × List AV)} {id : Nat} {x : Nat × List AV}, l.Pairwise (fun x y => x.1 ≠ y.1) → x ∈ delBox l id → (∃ v, (id, v) ∈ l) → x.1 ≠ id
  | (i, v) :: l, id, x, hp, hx, hm => by
    rw [List.pairwise_cons] at hp
    simp only [delBox] at hx
    split at hx
    · rename_i he; subst he
      exact fun e => hp.1 x hx e.symm
    · rename_i he
      obtain ⟨u, hu⟩ := hm
      rcases List.mem_cons.1 hx with rfl | hx
      · exact he
      · refine delBox_ne hp.2 hx ⟨u, ?_⟩
        rcases List.mem_cons.1 hu with hu | hu
        · simp only [Prod.mk.injEq] at hu; exact absurd hu.1.symm he
        · exact hu

/-- A box's cells told in another way. -/
theorem Mem.reBox {bx : List (Nat × List AV)} {tp : List (Nat × TypeId)} (hm : Mem P c bx tp w) {id : Nat} {cells cells' : List AV} (hmem : (id, cells) ∈ bx) (h : ∀ o, w.heap[c.β id]? = some o → BoxRep P c w cells o → BoxRep P c w cells' o) :
    Mem P c (setBox bx id cells') tp w := by
  refine ⟨?_, pairwise_setBox (R := fun i j => c.β i ≠ c.β j) hm.apart, hm.tips, hm.tapart, hm.tids, ?_, hm.below, hm.baseLe, hm.plt, hm.pold⟩
  · intro z hz
    rcases setBox_other hz with rfl | ⟨k1, k2 | ⟨y, hy, k2⟩⟩
    · have bo := hm.boxes _ hmem
      obtain ⟨o, g1, g2⟩ := bo.row
      exact ⟨bo.lt, bo.base, bo.free, o, g1, h o g1 g2⟩
    · exact hm.boxes z k1
    · exact (k2 hm.ids_apart).elim
  · intro z hz y hy
    rcases setBox_other hy with rfl | ⟨k1, _⟩
    · exact hm.cross z hz (id, cells) hmem
    · exact hm.cross z hz y k1

theorem RepL.fromAV : ∀ {l : List AV} {vs : List Value} (_ : RepL P c w l vs) {i : Nat} {av : AV}, l[i]? = some av → ∃ v, vs[i]? = some v ∧ Rep P c w av v
  | [], vs, h, i, av, hv => by simp at hv
  | x :: xs, vs, h, i, av, hv => by
    simp only [RepL] at h
    obtain ⟨v, vs', rfl, h2, h3⟩ := h
    cases i with
    | zero => simp only [List.getElem?_cons_zero, Option.some.injEq] at hv; subst hv; exact ⟨v, rfl, h2⟩
    | succ i => simpa using RepL.fromAV h3 (i := i) (by simpa using hv)

theorem set_same {α : Type} {l : List α} {i : Nat} {v : α} (h : l[i]? = some v) : l.set i v = l := by
  obtain ⟨hlt, rfl⟩ := List.getElem?_eq_some_iff.1 h
  exact List.set_getElem_self hlt

theorem setBox_at : ∀ {l : List (Nat × List AV)} {id : Nat} {cells cells' : List AV}, (id, cells) ∈ l → (id, cells') ∈ setBox l id cells'
  | (i, v) :: l, id, cells, cells', h => by
    simp only [setBox]
    split
    · rename_i he; subst he; exact List.mem_cons_self
    · rename_i he
      rcases List.mem_cons.1 h with h | h
      · simp only [Prod.mk.injEq] at h; exact absurd h.1.symm he
      · exact List.mem_cons_of_mem _ (setBox_at h)

theorem delBox_setBox : ∀ (l : List (Nat × List AV)) (id : Nat) (cells : List AV), delBox (setBox l id cells) id = delBox l id
  | [], _, _ => rfl
  | (i, v) :: l, id, cells => by
    simp only [setBox, delBox]
    split
    · rename_i he; simp only [delBox, he, if_true]
    · rename_i he; simp only [delBox, if_neg he, delBox_setBox l id cells]

/-- Cells at the heap's end are read from now on. -/
def Ctx.addProt (c : Ctx) (g k : Nat) : Ctx := { c with prot := fun b j => c.prot b j ∨ (b = g ∧ j < k) }

theorem Ext.addProt (c : Ctx) (w : World) (o : Obj) (g k : Nat) : Ext c.next c w (c.addProt g k) (w.alloc o) :=
  ⟨rfl, rfl, rfl, by simp, fun id hid => ⟨rfl, rfl⟩, fun b j hb hp => ⟨.inl hp, World.cell?_alloc_lt w _ ⟨b, j, none⟩ hb⟩, Stays.of_eq fun b hb => heap_alloc_lt w o hb, fun b es n _ hb => (heap_alloc_lt w o (heap_lt hb)).trans hb⟩

theorem Mem.addProt (h : Mem P c bx tp w) (o : Obj) (k : Nat) : Mem P (c.addProt w.heap.size k) bx tp (w.alloc o) := by
  have hx := Ext.addProt c w o w.heap.size k
  refine ⟨?_, h.apart, ?_, h.tapart, h.tids, h.cross, h.below.alloc h.baseLe _, ?_, ?_, fun b j hj hb => hj.elim (fun hj => h.pold b j hj hb) fun hj => absurd hb (by have := h.baseLe; show ¬ b < c.base; omega)⟩
  · exact fun x hm => (h.boxes x hm).ext hx (Nat.le_refl _) (heap_alloc_lt w _ (h.boxes x hm).block_lt) fun j hj => hj.elim id fun hj => by
      have := (h.boxes x hm).block_lt
      omega
  · exact fun x hm => (h.tips x hm).ext hx (Nat.le_refl _) (fun g hg => heap_alloc_lt w _ ((h.tips x hm).block_lt hg).1) fun g j hg hj => hj.elim id fun hj => by
      have := ((h.tips x hm).block_lt hg).1
      omega
  · have := h.baseLe
    show c.base ≤ _
    simp; omega
  · intro b j hj
    rcases hj with hj | hj
    · have := h.plt b j hj; simp; omega
    · rw [hj.1]; simp

/-- What an own slice is: nil, or the head of a row that nobody else holds. -/
def OwnOK (P : Program) (c : Ctx) (bx : List (Nat × List AV)) (tp : List (Nat × TypeId)) (w : World) (e : TypeId) (v : Value) : Prop :=
  v = .slice none 0 0 ∨ ∃ g n cap cur, v = .slice (some ⟨g, 0, none⟩) n cap ∧ c.base ≤ g ∧ w.heap[g]? = some (.cells cur e (0, 0)) ∧ n ≤ cap ∧ cap ≤ maxLen ∧
    cur.size = cap * P.cellsOf e ∧ (∀ j, c.prot g j → j < n * P.cellsOf e) ∧ (∀ x ∈ tp, (c.τ x.1).ownBlock ≠ some g) ∧ (∀ y ∈ bx, c.β y.1 ≠ g)

theorem own_nil {e : TypeId} : OwnOK P c bx tp w e (.slice none 0 0) := .inl rfl

theorem Mem.own (h : Mem P c bx tp w) {id : Nat} {e : TypeId} (hm : (id, e) ∈ tp) : OwnOK P c bx (dropTip tp id) w e (c.τ id) := by
  rcases (h.tips _ hm).row with h1 | ⟨g, n, cap, cur, h1, h2, h3, h4, h5, h6, h7⟩
  · exact .inl h1
  · have ho : (c.τ id).ownBlock = some g := by rw [h1]; rfl
    refine .inr ⟨g, n, cap, cur, h1, h2, h3, h4, h5, h6, h7, fun x hx he => ?_, fun y hy he => h.cross _ hm y hy (by rw [ho, he])⟩
    have hne : ∀ {l : List (Nat × TypeId)}, l.Pairwise (fun x y => x.1 ≠ y.1) → l.Pairwise (fun x y => ∀ k, (c.τ x.1).ownBlock = some k → (c.τ y.1).ownBlock ≠ some k) → (id, e) ∈ l → x ∈ dropTip l id → False := by
      intro l
      induction l with
      | nil => intro _ _ h; cases h
      | cons z l ih =>
        obtain ⟨i, e'⟩ := z
        intro hp hq hmem hx1
        rw [List.pairwise_cons] at hp hq
        simp only [dropTip] at hx1
        split at hx1
        · rename_i hi; subst hi
          exact hq.1 x hx1 g ho he
        · rename_i hi
          rcases List.mem_cons.1 hmem with hmem | hmem
          · exact hi (by simpa using (congrArg Prod.fst hmem).symm)
          · rcases List.mem_cons.1 hx1 with hx2 | hx2
            · exact hq.1 _ hmem g (by rw [← hx2]; exact he) ho
            · exact ih hp.2 hq.2 hmem hx2
    exact hne h.tids h.tapart hm hx
end
end Go.Ab
