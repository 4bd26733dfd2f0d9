/-
Forgetting and renaming in the abstract machine: what a loop's head keeps. Conditions: none.
-/
import Derived.Test.YteekelelcbfekaaDoorAbEval
import Derived.IntWalk
set_option linter.unusedSimpArgs false
set_option linter.unusedVariables false
set_option linter.unusedSectionVars false
namespace Go.Ab
open Go Go.RowKit

def nm (ids : List Nat) (i : Nat) : Nat := ids.getD i 0

/-- The slots kept are those of the other state, renamed. -/
def slotsBy (ids : List Nat) (n : Nat) (sl : List (Nat × Option AV)) : List (Nat × Option AV) → Prop
  | [] => True
  | (t, some av) :: l => (look sl t = some (av.ren (nm ids)) ∧ av.under n = true) ∧ slotsBy ids n sl l
  | (_, none) :: l => slotsBy ids n sl l

/-- A box, whatever lies in it. -/
def rawAt : List (Nat × List AV) → Nat → Option (List AV)
  | [], _ => none
  | (i, v) :: l, t => if i = t then some v else rawAt l t

theorem rawAt_mem : ∀ {l : List (Nat × List AV)} {id : Nat} {cells : List AV}, rawAt l id = some cells → (id, cells) ∈ l
  | (i, v) :: l, id, cells, h => by
    simp only [rawAt] at h
    split at h
    · rename_i he; subst he; simp at h; subst h; exact List.mem_cons_self
    · exact List.mem_cons_of_mem _ (rawAt_mem h)

def boxesBy (ids : List Nat) (n : Nat) (bx : List (Nat × List AV)) : List (Nat × List AV) → Prop
  | [] => True
  | (i, cells) :: l => (i < n ∧ rawAt bx (nm ids i) = some (AV.renL (nm ids) cells) ∧ AV.underL n cells = true ∧ (l.all fun x => x.1 != i) = true) ∧ boxesBy ids n bx l

def tipsBy (ids : List Nat) (n : Nat) (tp : List (Nat × TypeId)) : List (Nat × TypeId) → Prop
  | [] => True
  | (i, e) :: l => (i < n ∧ hasTip tp (nm ids i) e = true ∧ (l.all fun x => x.1 != i) = true) ∧ tipsBy ids n tp l

section
variable {P : Program} {N F : Nat} {c c' : Ctx} {w w' : World} {s : State} {a : Act}

theorem slotsBy_look {ids : List Nat} {n : Nat} {sl : List (Nat × Option AV)} : ∀ {l : List (Nat × Option AV)} {t : Nat} {av : AV}, slotsBy ids n sl l → look l t = some av → look sl t = some (av.ren (nm ids)) ∧ av.under n = true
  | (i, some av') :: l, t, av, h, ht => by
    simp only [slotsBy] at h
    simp only [look] at ht
    split at ht
    · rename_i he; subst he
      simp only [Option.some.injEq] at ht; subst ht
      exact h.1
    · exact slotsBy_look h.2 ht
  | (i, none) :: l, t, av, h, ht => by
    simp only [slotsBy] at h
    simp only [look] at ht
    split at ht
    · cases ht
    · exact slotsBy_look h ht

theorem boxesBy_mem {ids : List Nat} {n : Nat} {bx : List (Nat × List AV)} : ∀ {l : List (Nat × List AV)} {x : Nat × List AV}, boxesBy ids n bx l → x ∈ l → x.1 < n ∧ rawAt bx (nm ids x.1) = some (AV.renL (nm ids) x.2) ∧ AV.underL n x.2 = true
  | (i, cells) :: l, x, h, hx => by
    simp only [boxesBy] at h
    rcases List.mem_cons.1 hx with rfl | hx
    · exact ⟨h.1.1, h.1.2.1, h.1.2.2.1⟩
    · exact boxesBy_mem h.2 hx

theorem boxesBy_nodup {ids : List Nat} {n : Nat} {bx : List (Nat × List AV)} : ∀ {l : List (Nat × List AV)}, boxesBy ids n bx l → l.Pairwise (fun x y => x.1 ≠ y.1)
  | [], _ => List.Pairwise.nil
  | (i, cells) :: l, h => by
    simp only [boxesBy] at h
    refine List.pairwise_cons.2 ⟨fun y hy => ?_, boxesBy_nodup h.2⟩
    have := List.all_eq_true.1 h.1.2.2.2 y hy
    simp only [bne_iff_ne, ne_eq] at this
    exact fun e => this e.symm

theorem tipsBy_mem {ids : List Nat} {n : Nat} {tp : List (Nat × TypeId)} : ∀ {l : List (Nat × TypeId)} {x : Nat × TypeId}, tipsBy ids n tp l → x ∈ l → x.1 < n ∧ hasTip tp (nm ids x.1) x.2 = true
  | (i, e) :: l, x, h, hx => by
    simp only [tipsBy] at h
    rcases List.mem_cons.1 hx with rfl | hx
    · exact ⟨h.1.1, h.1.2.1⟩
    · exact tipsBy_mem h.2 hx

theorem tipsBy_nodup {ids : List Nat} {n : Nat} {tp : List (Nat × TypeId)} : ∀ {l : List (Nat × TypeId)}, tipsBy ids n tp l → l.Pairwise (fun x y => x.1 ≠ y.1)
  | [], _ => List.Pairwise.nil
  | (i, e) :: l, h => by
    simp only [tipsBy] at h
    refine List.pairwise_cons.2 ⟨fun y hy => ?_, tipsBy_nodup h.2⟩
    have := List.all_eq_true.1 h.1.2.2 y hy
    simp only [bne_iff_ne, ne_eq] at this
    exact fun e => this e.symm

theorem nm_inj {ids : List Nat} (h : ids.Nodup) {i j : Nat} (hi : i < ids.length) (hj : j < ids.length) (he : nm ids i = nm ids j) : i = j := by
  unfold nm at he
  have h1 : ids[i]? = some ids[i] := List.getElem?_eq_getElem hi
  have h2 : ids[j]? = some ids[j] := List.getElem?_eq_getElem hj
  simp only [List.getD, h1, h2, Option.getD_some] at he
  exact (List.getElem?_inj hi h).1 (by rw [h1, h2, he])

theorem Mem.tip_apart {bx : List (Nat × List AV)} {tp : List (Nat × TypeId)} (hm : Mem P c bx tp w) : ∀ x y : Nat × TypeId, x ∈ tp → y ∈ tp → x.1 ≠ y.1 → ∀ k, (c.τ x.1).ownBlock = some k → (c.τ y.1).ownBlock ≠ some k := by
  have hap := hm.tapart
  clear hm
  induction tp with
  | nil => intro x y hx; cases hx
  | cons z l ih =>
    rw [List.pairwise_cons] at hap
    intro x y hx hy hne k hk
    rcases List.mem_cons.1 hx with hx1 | hx1
    · rcases List.mem_cons.1 hy with hy1 | hy1
      · exact absurd (by rw [hx1, hy1]) hne
      · exact hap.1 y hy1 k (by rw [← hx1]; exact hk)
    · rcases List.mem_cons.1 hy with hy1 | hy1
      · intro he
        exact hap.1 x hx1 k (by rw [← hy1]; exact he) hk
      · exact ih hap.2 x y hx1 hy1 hne k hk

theorem renL_get (f : Nat → Nat) {n : Nat} : ∀ (l : List AV) {j : Nat} {av : AV}, l[j]? = some av → AV.underL n l = true → (AV.renL f l)[j]? = some (av.ren f) ∧ av.under n = true
  | [], j, av, h, _ => by simp at h
  | x :: xs, j, av, h, hu => by
    simp only [AV.underL, Bool.and_eq_true] at hu
    cases j with
    | zero => simp at h; subst h; exact ⟨rfl, hu.1⟩
    | succ j => simp only [AV.renL, List.getElem?_cons_succ]; exact renL_get f xs (by simpa using h) hu.2

theorem renL_len (f : Nat → Nat) : ∀ (l : List AV), (AV.renL f l).length = l.length
  | [] => rfl
  | x :: xs => by simp only [AV.renL, List.length_cons, renL_len f xs]

theorem BoxRep.ren {f : Nat → Nat} (hβ : ∀ i, i < c'.next → c'.β i = c.β (f i)) (hτ : ∀ i, i < c'.next → c'.τ i = c.τ (f i)) (hp : c'.prot = c.prot) {cells : List AV} {o : Obj} (h : BoxRep P c w (AV.renL f cells) o) (hu : AV.underL c'.next cells = true) : BoxRep P c' w cells o := by
  rcases h with ⟨arr, t, h1, h2⟩ | ⟨x, h1, h2⟩
  · exact .inl ⟨arr, t, h1, RepL.ren hβ hτ hp _ _ (by rw [renL_len] at h2; exact h2) hu⟩
  · match cells, h1 with
    | [y], h1 =>
      simp only [AV.renL, List.cons.injEq, and_true] at h1
      subst h1
      simp only [AV.underL, Bool.and_true] at hu
      refine .inr ⟨y, rfl, ?_⟩
      match y, h2, hu with
      | .ob (.loop i) l, h2, hu =>
        obtain ⟨tmps, fn, defers, ca, cb, g1, g0, g2, g3⟩ := h2
        refine ⟨tmps, fn, defers, ca, cb, g1, g0, g2, fun j k av hj hk => ?_⟩
        simp only [AV.under] at hu
        obtain ⟨k1, k2⟩ := renL_get f l hk hu
        exact Rep.ren hβ hτ hp _ _ (g3 j k _ hj k1) k2
      | .ob (.map k e n) l, h2, hu =>
        obtain ⟨es, g1, g2, g3, g4⟩ := h2
        exact ⟨es, g1, g2, RepL.ren hβ hτ hp _ _ g3 (by simpa [AV.under] using hu), g4⟩
      | .ob (.iter s pos) l, h2, hu => exact h2
      | .ob (.miter seen since last) l, h2, hu =>
        obtain ⟨r, g1, g2⟩ := h2
        exact ⟨r, RepL.ren hβ hτ hp _ _ g1 (by simpa [AV.under] using hu), g2⟩

theorem weak_by (ids : List Nat) (hids : ids.Nodup) {sl sl1 : List (Nat × Option AV)} {bx bx1 : List (Nat × List AV)} {tp tp1 : List (Nat × TypeId)} {nx n : Nat} (hn : n = ids.length)
    (h1 : slotsBy ids n sl sl1) (h2 : boxesBy ids n bx bx1) (h3 : tipsBy ids n tp tp1) (hF : F ≤ n ∧ ∀ i, i < F → nm ids i = i) : Weak P F ⟨sl, bx, tp, nx⟩ ⟨sl1, bx1, tp1, n⟩ := by
  intro N c a w hfl hr
  subst hn
  refine ⟨{ c with next := ids.length, β := fun i => c.β (nm ids i), τ := fun i => c.τ (nm ids i) }, ⟨rfl, rfl, rfl, Nat.le_refl _, fun id hid => ?_, fun _ _ _ hp => ⟨hp, rfl⟩, Stays.refl w, fun _ _ _ _ h => h⟩, rfl, ?_⟩
  · have := hF.2 id (by have := hfl; omega)
    simp only [this, and_self]
  · have ren : ∀ (av : AV) (v : Value), Rep P c w (av.ren (nm ids)) v → av.under ids.length = true → Rep P { c with next := ids.length, β := fun i => c.β (nm ids i), τ := fun i => c.τ (nm ids i) } w av v := fun av v hv hu =>
      Rep.ren (c := c) (c' := { c with next := ids.length, β := fun i => c.β (nm ids i), τ := fun i => c.τ (nm ids i) }) (f := nm ids) (fun _ _ => rfl) (fun _ _ => rfl) rfl _ _ hv hu
    have renL : ∀ (l : List AV) (vs : List Value), RepL P c w (AV.renL (nm ids) l) vs → AV.underL ids.length l = true → RepL P { c with next := ids.length, β := fun i => c.β (nm ids i), τ := fun i => c.τ (nm ids i) } w l vs := fun l vs hv hu =>
      RepL.ren (c := c) (c' := { c with next := ids.length, β := fun i => c.β (nm ids i), τ := fun i => c.τ (nm ids i) }) (f := nm ids) (fun _ _ => rfl) (fun _ _ => rfl) rfl _ _ hv hu
    have hm := hr.mem
    have bkey : ∀ x ∈ bx1, (nm ids x.1, AV.renL (nm ids) x.2) ∈ bx := fun x hx => rawAt_mem (boxesBy_mem h2 hx).2.1
    have tkey : ∀ x ∈ tp1, (nm ids x.1, x.2) ∈ tp := fun x hx => hasTip_mem (tipsBy_mem h3 hx).2
    refine ⟨fun t av ht => ?_, hr.size, hr.marks, hr.round, hr.low, ⟨fun x hx => ?_, ?_, fun x hx => ?_, ?_, tipsBy_nodup h3, fun x hx y hy => ?_, hm.below, hm.baseLe, hm.plt, hm.pold⟩, rfl, by have := hF.1; simp only; omega⟩
    · obtain ⟨g1, g2⟩ := slotsBy_look h1 ht
      exact ren _ _ (hr.slots t _ g1) g2
    · have hb := hm.boxes _ (bkey x hx)
      obtain ⟨o, g1, g2⟩ := hb.row
      refine ⟨(boxesBy_mem h2 hx).1, hb.base, hb.free, o, g1, ?_⟩
      exact BoxRep.ren (c := c) (c' := { c with next := ids.length, β := fun i => c.β (nm ids i), τ := fun i => c.τ (nm ids i) }) (f := nm ids) (fun _ _ => rfl) (fun _ _ => rfl) rfl g2 (boxesBy_mem h2 hx).2.2
    · refine (boxesBy_nodup h2).imp_of_mem fun {x y} hx hy hne => ?_
      exact hm.β_ne (bkey x hx) (bkey y hy) fun e => hne (nm_inj hids (boxesBy_mem h2 hx).1 (boxesBy_mem h2 hy).1 e)
    · have ht := hm.tips _ (tkey x hx)
      exact ⟨(tipsBy_mem h3 hx).1, ht.row⟩
    · refine (tipsBy_nodup h3).imp_of_mem fun {x y} hx hy hne => ?_
      exact hm.tip_apart _ _ (tkey x hx) (tkey y hy) fun e => hne (nm_inj hids (tipsBy_mem h3 hx).1 (tipsBy_mem h3 hy).1 e)
    · exact hm.cross _ (tkey x hx) _ (bkey y hy)

/-- The number in a slot. -/
def cnt (t : Nat) (s : State) : Nat :=
  match look s.slots t with
  | some (.lit (.int _ n)) => n.toNat
  | _ => 0

/-- Nil may be taken for an own slice without elements. -/
theorem weak_nil (t : Nat) (e : TypeId) {sl : List (Nat × Option AV)} {bx : List (Nat × List AV)} {tp : List (Nat × TypeId)} {nx : Nat} (h : look sl t = some (.lit (.slice none 0 0))) :
    Weak P F ⟨sl, bx, tp, nx⟩ ⟨(t, some (.sl e [] (some nx))) :: sl, bx, (nx, e) :: tp, nx + 1⟩ := by
  intro N c a w hfl hr
  have hn : nx = c.next := hr.next
  subst hn
  have hx := Ext.addTip c w (.slice none 0 0)
  have hm := hr.mem.addTip (e := e) (own_nil (c := c))
  refine ⟨_, hx.mono hr.floor, rfl, fun t' av ht => ?_, hr.size, hr.marks, hr.round, hr.low, hm, rfl, Nat.le_succ_of_le hr.floor⟩
  simp only [look] at ht
  split at ht
  · rename_i he; subst he
    simp only [Option.some.injEq] at ht; subst ht
    have hv := hr.slots t _ h
    simp only [Rep] at hv
    rw [hv]
    simp only [Rep]
    exact ⟨els_nil e, fun id hid => by simp only [Option.some.injEq] at hid; subst hid; exact ⟨Nat.lt_succ_self _, by simp [Ctx.newTip]⟩⟩
  · exact Rep.ext hx (Nat.le_succ _) _ _ (hr.slots t' av ht)

/-- Nil in a box may be taken for an own slice without elements. -/
theorem weak_nil_box (id j : Nat) (e : TypeId) {sl : List (Nat × Option AV)} {bx : List (Nat × List AV)} {tp : List (Nat × TypeId)} {nx : Nat} {cells : List AV} (h : boxAt bx id = some cells) (hj : cells[j]? = some (.lit (.slice none 0 0))) :
    Weak P F ⟨sl, bx, tp, nx⟩ ⟨sl, setBox bx id (cells.set j (.sl e [] (some nx))), (nx, e) :: tp, nx + 1⟩ := by
  intro N c a w hfl hr
  have hn : nx = c.next := hr.next
  subst hn
  have hx := Ext.addTip c w (.slice none 0 0)
  have hm := hr.mem.addTip (e := e) (own_nil (c := c))
  refine ⟨_, hx.mono hr.floor, rfl, fun t' av ht => Rep.ext hx (Nat.le_succ _) _ _ (hr.slots t' av ht), hr.size, hr.marks, hr.round, hr.low, hm.reBox (boxAt_mem h) (fun o ho hb => ?_), rfl, Nat.le_succ_of_le hr.floor⟩
  obtain ⟨arr, t, h1, h2⟩ := hb.cells (boxAt_ob h)
  refine .inl ⟨arr, t, h1, ?_⟩
  obtain ⟨v, hv, hr'⟩ := RepL.fromAV h2 hj
  simp only [Rep] at hr'
  subst hr'
  have := h2.set j (av := .sl e [] (some c.next)) (v := .slice none 0 0) (by simp only [Rep]; exact ⟨els_nil e, fun id hid => by simp only [Option.some.injEq] at hid; subst hid; exact ⟨Nat.lt_succ_self _, by simp [Ctx.newTip]⟩⟩)
  rw [set_same hv] at this
  rw [List.length_set]
  exact this

/-- An own block is read from now on. -/
theorem Mem.protOwn {bx : List (Nat × List AV)} {tp : List (Nat × TypeId)} (hm : Mem P c bx tp w) {g : Nat} (hg : c.base ≤ g) (hlt : g < w.heap.size) (hbx : ∀ y ∈ bx, c.β y.1 ≠ g) (htp : ∀ x ∈ tp, (c.τ x.1).ownBlock ≠ some g) (k : Nat) :
    Ext c.next c w (c.addProt g k) w ∧ Mem P (c.addProt g k) bx tp w := by
  have hx : Ext c.next c w (c.addProt g k) w := ⟨rfl, rfl, rfl, Nat.le_refl _, fun id hid => ⟨rfl, rfl⟩, fun b j hb hp => ⟨.inl hp, rfl⟩, Stays.refl w, fun _ _ _ _ h => h⟩
  refine ⟨hx, ⟨fun x hxm => (hm.boxes x hxm).ext hx (Nat.le_refl _) rfl fun j hj => hj.elim id fun hj => absurd hj.1 (hbx x hxm), hm.apart,
    fun x hxm => (hm.tips x hxm).ext hx (Nat.le_refl _) (fun _ _ => rfl) fun k' j hk hj => hj.elim id fun hj => absurd (by rw [hk, hj.1]) (htp x hxm), hm.tapart, hm.tids, hm.cross, hm.below, hm.baseLe, fun b j hj => hj.elim (hm.plt b j) fun hj => by rw [hj.1]; exact hlt, fun b j hj hb => hj.elim (fun hj => hm.pold b j hj hb) fun hj => absurd hb (by rw [hj.1]; show ¬ g < c.base; omega)⟩⟩

/-- A row that may be written, and that nobody will write any more, is an own slice. -/
theorem weak_freeze (t : Nat) {e sz n id : Nat} {els : List (List Value)} {rest : List AV} {sl : List (Nat × Option AV)} {bx : List (Nat × List AV)} {tp : List (Nat × TypeId)} {nx : Nat} (h : look sl t = some (.rf (.row e sz 0 n) id)) (hb : boxAt bx id = some (els.flatten.map .lit ++ rest))
    (hn : els.length = n) (hl : lenAll sz els = true) (ho : oneV els = true) :
    Weak P F ⟨sl, bx, tp, nx⟩ ⟨(t, some (.sl e els (some nx))) :: sl, delBox bx id, (nx, e) :: tp, nx + 1⟩ := by
  intro N c a w hfl hr
  have hnx : nx = c.next := hr.next
  subst hnx
  have hv := hr.slots t _ h
  simp only [Rep] at hv
  obtain ⟨hid, o, cap, arr, hv, g2, g3, g4, g5, g6, g7, g8, g9⟩ := hv
  obtain ⟨rfl, hsz⟩ := g9 rfl
  have hmem := boxAt_mem hb
  have hbox := hr.mem.boxes _ hmem
  replace g7 := row_zero hr.mem hb g7
  have hrow := row_cells hr.mem hb g7
  have hE : Els P e els := els_of (by rw [← g5]; exact hl) ho
  have hfl' := hE.flatten_length
  rw [← g5, hn] at hfl'
  have hle : n * sz ≤ arr.size := by rw [hsz]; exact Nat.mul_le_mul_right _ g3
  have hcells : arr.toList.take els.flatten.length = els.flatten := by
    have h1 := hrow.take els.flatten.length
    rw [List.take_left' (by rw [List.length_map]), List.take_take, Nat.min_eq_left (by rw [List.length_append, List.length_map]; omega)] at h1
    exact RepL.of_lits h1
  have hne : ∀ y ∈ delBox bx id, c.β y.1 ≠ c.β id := fun y hy => hr.mem.β_ne ((delBox_sub bx id).subset hy) hmem (delBox_ne hr.mem.ids_apart hy ⟨_, hmem⟩)
  have hm0 := hr.mem.forget (delBox_sub bx id) (List.Sublist.refl _)
  obtain ⟨x1, m1⟩ := hm0.protOwn hbox.base hbox.block_lt hne (fun x hx => hr.mem.cross x hx _ hmem) (n * sz)
  have hown : OwnOK P (c.addProt (c.β id) (n * sz)) (delBox bx id) tp w e (.slice (some ⟨c.β id, 0, none⟩) n cap) := by
    refine .inr ⟨c.β id, n, cap, arr, rfl, hbox.base, g7, g3, g4, by rw [hsz, g5], fun j hj => ?_, fun x hx => hr.mem.cross x hx _ hmem, hne⟩
    rw [← g5]
    exact hj.elim (fun hj => absurd hj (hbox.free j)) fun hj => hj.2
  have m2 := m1.addTip hown
  have x2 := x1.trans (Ext.addTip (c.addProt (c.β id) (n * sz)) w (.slice (some ⟨c.β id, 0, none⟩) n cap))
  refine ⟨_, x2.mono hr.floor, rfl, fun t' av ht => ?_, hr.size, hr.marks, hr.round, hr.low, m2, rfl, Nat.le_succ_of_le hr.floor⟩
  simp only [look] at ht
  split at ht
  · rename_i he; subst he
    simp only [Option.some.injEq] at ht; subst ht
    rw [hv]
    simp only [Rep]
    refine ⟨⟨_, cap, by rw [hn], by rw [hn]; exact g3, hE, .inr ⟨c.β id, 0, rfl, ?_⟩⟩, fun i hi => by simp only [Option.some.injEq] at hi; subst hi; exact ⟨Nat.lt_succ_self _, by simp [Ctx.newTip, Ctx.addProt]⟩⟩
    exact reads_row g7 (fun j hj => .inr ⟨rfl, by rw [← hfl']; exact hj⟩) hcells
  · exact Rep.ext x2 (Nat.le_succ _) _ _ (hr.slots t' av ht)

/-- A map that nobody will write any more. -/
theorem weak_freezeM (t : Nat) {k e : TypeId} {n id : Nat} {cells : List AV} {sl : List (Nat × Option AV)} {bx : List (Nat × List AV)} {tp : List (Nat × TypeId)} {nx : Nat} (h : look sl t = some (.rf .map id)) (hb : obAt bx id = some (.ob (.map k e n) cells)) :
    Weak P F ⟨sl, bx, tp, nx⟩ ⟨(t, some (.vx (.map n) cells)) :: sl, delBox bx id, tp, nx⟩ := by
  intro N c a w hfl hr
  have hv := hr.slots t _ h
  simp only [Rep, RefOK, refV] at hv
  obtain ⟨hid, hv⟩ := hv
  obtain ⟨es, g1, g2, g3, g4⟩ := map_at hr hb
  have hmem := obAt_mem hb
  have hbox := hr.mem.boxes _ hmem
  have hne : ∀ y ∈ delBox bx id, c.β y.1 ≠ c.β id := fun y hy => hr.mem.β_ne ((delBox_sub bx id).subset hy) hmem (delBox_ne hr.mem.ids_apart hy ⟨_, hmem⟩)
  have hm0 := hr.mem.forget (delBox_sub bx id) (List.Sublist.refl _)
  obtain ⟨x1, m1⟩ := hm0.protOwn hbox.base hbox.block_lt hne (fun x hx => hr.mem.cross x hx _ hmem) 1
  refine ⟨_, x1.mono hr.floor, rfl, fun t' av ht => ?_, hr.size, hr.marks, hr.round, hr.low, m1, hr.next, hr.floor⟩
  simp only [look] at ht
  split at ht
  · rename_i he; subst he
    simp only [Option.some.injEq] at ht; subst ht
    rw [hv]
    simp only [Rep]
    exact ⟨_, ⟨c.β id, es, rfl, .inr ⟨rfl, Nat.zero_lt_one⟩, g1, g2, rfl, g4⟩, RepL.ext x1 (Nat.le_refl _) _ _ g3⟩
  · exact Rep.ext x1 (Nat.le_refl _) _ _ (hr.slots t' av ht)

/-- A slice that, when it is appended to, becomes a row that may be written. -/
theorem weak_wrap (t : Nat) {av : AV} {sl : List (Nat × Option AV)} {bx : List (Nat × List AV)} {tp : List (Nat × TypeId)} {nx : Nat} (h : look sl t = some av) (hs : av = .lit (.slice none 0 0) ∨ ∃ e els tip, av = .sl e els tip) :
    Weak P F ⟨sl, bx, tp, nx⟩ ⟨(t, some (.vx .wrap [av])) :: sl, bx, tp, nx⟩ := by
  intro N c a w hfl hr
  refine ⟨c, Ext.refl _ _ _, rfl, fun t' av' ht => ?_, hr.size, hr.marks, hr.round, hr.low, hr.mem, hr.next, hr.floor⟩
  simp only [look] at ht
  split at ht
  · rename_i he; subst he
    simp only [Option.some.injEq] at ht; subst ht
    have hv := hr.slots t _ h
    simp only [Rep, RepL]
    refine ⟨[a.tmps.getD t undef], ⟨rfl, ?_⟩, _, _, rfl, hv, rfl⟩
    rcases hs with rfl | ⟨e, els, tip, rfl⟩
    · simp only [Rep] at hv; exact ⟨_, _, _, hv⟩
    · simp only [Rep] at hv; obtain ⟨⟨ad, cap, h1, _⟩, _⟩ := hv; exact ⟨_, _, _, h1⟩
  · exact hr.slots t' av' ht

/-- A slice may be taken without its right to be appended to. -/
theorem weak_untip (t : Nat) {e : TypeId} {els : List (List Value)} {tip : Option Nat} {sl : List (Nat × Option AV)} {bx : List (Nat × List AV)} {tp : List (Nat × TypeId)} {nx : Nat} (h : look sl t = some (.sl e els tip)) :
    Weak P F ⟨sl, bx, tp, nx⟩ ⟨(t, some (.sl e els none)) :: sl, bx, tp, nx⟩ := by
  intro N c a w hfl hr
  refine ⟨c, Ext.refl _ _ _, rfl, fun t' av ht => ?_, hr.size, hr.marks, hr.round, hr.low, hr.mem, hr.next, hr.floor⟩
  simp only [look] at ht
  split at ht
  · rename_i he; subst he
    simp only [Option.some.injEq] at ht; subst ht
    have hv := hr.slots t _ h
    simp only [Rep] at hv ⊢
    exact ⟨hv.1, fun id hid => by cases hid⟩
  · exact hr.slots t' av ht

/-- What is weaker will do at the end. -/
theorem AWP.weakPost {C : Code} {Q : Exit → State → Prop} (h : AWP P N F C (fun e s' => ∃ s1, Weak P F s' s1 ∧ Q e s1) s) : AWP P N F C Q s := fun c a w hfl hr => wpIn_mono (h c a w hfl hr) fun e a2 w2 hh => by
  obtain ⟨c2, s2, g1, g2, g3, s1, g4, g5⟩ := hh
  obtain ⟨c3, m1, m2, m3⟩ := g4 N c2 a2 w2 (by rw [g2]; exact hfl) g3
  exact ⟨c3, s1, g1.trans (by rw [← g2]; exact m1), m2.trans g2, m3, g5⟩

/-- A function that hands back one new row, made up at the end. -/
theorem pure1W {g : FuncId} {fn : Func} {N : Nat} {A : ACode} {args : List AV} {ty : TypeId} {els : List (List Value)} {rs : List ResultVar} (hf : P.funcs[g]? = some fn) (hc : fn.body.bind (cCode P N) = some A) (hn : fn.ntmps = N) (he : Enters P g) (hrs : fn.results.toList = rs)
    (hN : args.length ≤ N) (h : awp P 0 A (fun e s => ∃ s1, Weak P 0 s s1 ∧ Done1 P rs ty (fun k => .sl ty els (some k)) e s1) (astart args [] [] 0)) : Pure P g args [ty] (.sl ty els (some 0)) := by
  subst hn
  cases hb : fn.body with
  | none => rw [hb] at hc; cases hc
  | some C =>
    rw [hb] at hc
    have hA : AWP P fn.ntmps 0 C (Done1 P rs ty fun k => .sl ty els (some k)) (astart args [] [] 0) := (awp_sound C hc h).weakPost
    refine pure_of_awp hf hb he hN hrs (by simp [AV.under]) ?_
    intro c a w hfl hr
    refine wpIn_mono (hA c a w hfl hr) ?_
    rintro e a' w' ⟨c', s', h1, h2, h3, h4, k, h5, h6⟩
    refine ⟨c', s', h1, h2, h3, h4, [k], rfl, by simp, by simpa [AV.ren] using h5, fun i k' e hi he => ?_⟩
    cases i with
    | zero => simp at hi he; subst hi; subst he; exact hasTip_mem h6
    | succ i => simp at hi

/-- A function that hands back no new row; what it hands back is made up at the end. -/
theorem pure0W {g : FuncId} {fn : Func} {N : Nat} {A : ACode} {args : List AV} {r : AV} {rs : List ResultVar} (hf : P.funcs[g]? = some fn) (hc : fn.body.bind (cCode P N) = some A) (hn : fn.ntmps = N) (he : Enters P g) (hrs : fn.results.toList = rs)
    (hN : args.length ≤ N) (hr0 : r.under 0 = true) (h : awp P 0 A (fun e s => ∃ s1, Weak P 0 s s1 ∧ Done P rs r e s1) (astart args [] [] 0)) : Pure P g args [] r := by
  subst hn
  cases hb : fn.body with
  | none => rw [hb] at hc; cases hc
  | some C =>
    rw [hb] at hc
    have hA : AWP P fn.ntmps 0 C (Done P rs r) (astart args [] [] 0) := (awp_sound C hc h).weakPost
    refine pure_of_awp hf hb he hN hrs hr0 ?_
    intro c a w hfl hr
    refine wpIn_mono (hA c a w hfl hr) ?_
    rintro e a' w' ⟨c', s', h1, h2, h3, h4, h5⟩
    exact ⟨c', s', h1, h2, h3, h4, [], rfl, List.nodup_nil, by rw [AV.ren_under0 _ _ hr0]; exact h5, fun i k e hi => by simp at hi⟩

theorem Weak.trans {s1 s2 : State} (h : Weak P F s s1) (k : Weak P F s1 s2) : Weak P F s s2 := by
  intro N c a w hfl hr
  obtain ⟨c1, g1, g2, g3⟩ := h N c a w hfl hr
  obtain ⟨c2, k1, k2, k3⟩ := k N c1 a w (by rw [g2]; exact hfl) g3
  exact ⟨c2, g1.trans (by rw [← g2]; exact k1), k2.trans g2, k3⟩

theorem Weak.refl : Weak P F s s := fun _ c _ w _ hr => ⟨c, Ext.refl _ _ _, rfl, hr⟩

theorem wrap_i64 (n : Int) (h1 : -9223372036854775808 ≤ n) (h2 : n ≤ 9223372036854775807) : IntKind.i64.wrap n = n := IntWalk.i64_in n ⟨h1, h2⟩
theorem wrap_i32 (n : Int) (h1 : -2147483648 ≤ n) (h2 : n ≤ 2147483647) : IntKind.i32.wrap n = n := IntWalk.i32_in n ⟨h1, h2⟩
theorem wrap_u8 (n : Int) (h1 : 0 ≤ n) (h2 : n ≤ 255) : IntKind.u8.wrap n = n := IntWalk.u8_in n ⟨h1, h2⟩
end
end Go.Ab
